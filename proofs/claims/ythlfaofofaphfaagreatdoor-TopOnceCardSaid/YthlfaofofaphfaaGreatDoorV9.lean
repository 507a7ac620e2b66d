/- Part V9. -/
import Derived.Calls
import Derived.OrdersHeld
import Derived.Still
import Derived.Tactics
import Derived.Laws.Sem
import Derived.KernelRfl
import Derived.IntWalk
import Derived.Laws.Strings
import Derived.WalkKit
import Derived.ProofKit
import Derived.OpenShut
import Derived.SizedLaws
import Derived.JoinedCond
import Derived.Deep.CondSized
import Derived.Carry
open Go.Value renaming pointer→J,slice→Z,bool→aa,agg→a0
open Go.Obj renaming cells→Y
open List renaming length→M,eq_nil_of_length_eq_zero→a2,getElem?_eq_getElem→a7,length_cons→bf,length_append→bk,getElem?_map→bn,range→bo,all_cons→bw,all_append→bA,length_pos_iff→bB,getElem?_range→bG,mapM_cons→bR,getD_eq_getElem?_getD→b0,getElem?_append_left→b1,length_range→b4,all_eq_true→b5,getElem?_cons_zero→b7,getElem?_cons_succ→b8,getElem?_toArray→cg,drop_succ_cons→co,set_cons_zero→cq,set_cons_succ→cr,mapM_toArray→cu,size_toArray→cx,length_drop→cz,cons_append→cB,range'→cC,length_nil→cS,mapM_nil→cZ,map_cons→c0
open Nat renaming mod_eq_of_lt→a9,mul_le_mul_right→ba,add_mul→bl,le_refl→bx,pow_le_pow_right→bz,zero_add→ca,add_assoc→cp,add_zero→cv,add_comm→cw,sub_mul→cO,min_eq_left→cT,ble→c1
open Int renaming toNat_natCast→cy
open Option renaming bind_some→aw,map_some→a1,isSome_none→bS,some→G,none→U
open Array renaming getElem?_setIfInBounds→aN,getElem?_push→a3,getElem?_eq_some_iff→a5,ext_getElem?→bc,toList_setIfInBounds→bd,getElem?_eq_getElem→bg,size_push→bh,toList_map→bp,getD_eq_getD_getElem?→bN,range→b2,toList_inj→b6,getElem?_eq_none→b9,mem_of_getElem?→cd,getElem?_toList→cf,toArray_toList→ck,replicate→cR,zipIdx→c2
open Bool renaming and_eq_true→aO,false_eq_true→a4
open Go.IntWalk renaming i64_in→cn
open Go.Builtin renaming nextslicecap→a8,growBy→be,zeroCells→b3,append_→cc,len_→c3
open Go.Region renaming ready→bb,wanted→br,noSelect_spec→ch,binds→ct,free_spec→cA,noSelect→cP
open Go renaming Value→D,TypeId→O,Program→al,World→am,Operand→a6
namespace Go.V
theorem pA{p:Prop}(h:p:=by omega):p:=h
theorem vM{p:Prop}(h:p:=by kernel_rfl):p:=h
theorem IQ{p:Prop}(h:p:=by simp):p:=h
theorem Va{p:Prop}(h:p:=by intro e;cases e):p:=h
theorem VL{p:Prop}(h:p:=by simp;omega):p:=h
theorem aaa{p:Prop}(h:p:=by decide):p:=h
theorem aab{p:Prop}(h:p:=by first|omega|(simp;omega)):p:=h
theorem aac{p:Prop}(h:p:=by assumption):p:=h
theorem aad{p:Prop}(h:p:=by rw[List.length_take];omega):p:=h
theorem aae{p:Prop}(h:p:=by rw[cz];omega):p:=h
theorem aaf{p:Prop}(h:p:=by simp only[a3,bh,IntWalk.iteOmega,↓reduceIte]):p:=h
theorem aag{p:Prop}(h:p:=by rw[bk];omega):p:=h
theorem aah{p:Prop}(h:p:=by simp only[bh];omega):p:=h
theorem aai{p:Prop}(h:p:=by simp only[List.length_singleton];omega):p:=h
theorem aaj{p:Prop}(h:p:=by intro q;cases q):p:=h
variable{B b cap i len m n o:Nat}{E e t:O}{P:al}{a:Addr}{cs l:List D}{d:Option Tmp}{k:IntKind}{lo:Option D}{ops:List Oper}{parts:List (Nat × D)}{place:Nat->Option (Nat × Nat)}{v:D}{x y:a6}{α:Type}
theorem ZL(x:α):∃y,y=x:=⟨x,rfl⟩
abbrev Env:=Nat->D
def upd(F:Env)(d:Nat)(v:D):Env:=fun t=>if t=d then v else F t
def YD(F:Env):Option Nat->D->Env
 | none,_=>F
 | some d,v=>upd F d v
def ev(F:Env):a6->D
 | .tmp t=>F t
 | .const v=>v
 | .global g=>J (G ⟨g,0,U⟩)
 | .func f=>.func (.func f) #[] #[]
def HE:List D->Nat->Env
 | [],_=>fun _=>undef
 | v :: l,k=>upd (HE l (k+1)) k v
def env(a:Act):Env:=fun t=>a.tmps.getD t undef
theorem AX(a:Act):a.eval=ev (env a):=by
 funext x;cases x<;>rfl
theorem H4(a:Act)(dst:Option Nat)(v:D)(h:∀d,dst=G d->d<a.tmps.size):env (a.put dst v)=YD (env a) dst v:=by
 cases dst with
 | none=>rfl
 | some d=>
  funext t
  have hd:=h d rfl;simp only[env,Act.put,YD,upd,bN,aN];by_cases htd:d=t
  .subst htd;simp[hd]
  .rw[if_neg htd,if_neg (fun h=>htd h.symm)]
theorem MW(a:Act)(dst:Option Nat)(v:D):(a.put dst v).tmps.size=a.tmps.size:=by
 cases dst<;>simp[Act.put]
abbrev Hp:=Array Obj
variable{N:Env->Hp->Prop}{Q:D->Hp->Prop}{h h':Hp}
structure SI(T:am)(w:am)(h:Hp):Prop where
 heap:w.heap=h
 tape:w.tape=T.tape
 os:w.os=T.os
 output:w.output=T.output
def hc(h:Hp)(a:Addr):Option D:=
 match h[a.block]? with
 | some (Y c _ _)=>if a.spot.isSome then U else c[a.off]?
 | _=>U
def Tn(h:Hp)(r:Nat):Option (O × Nat):=
 match h[r]? with
 | some (Y c elem _)=>G (elem,c.size)
 | _=>U
def vN(h:Hp)(a:Addr):Bool:=
 match h[a.block]? with
 | some (Y _ _ (lo,hi))=>lo<=a.off&&a.off<hi
 | _=>false
def pB(h:Hp)(a:Addr)(v:D):Hp:=
 h.modify a.block fun
  | Y c elem frozen=>Y (if a.spot.isSome then c else c.setIfInBounds a.off v) elem frozen
  | o=>o
def RU(h:Hp)(a:Addr)(n:Nat):Hp:=
 if n=0 then h else
 h.modify a.block fun
  | Y c elem (lo,hi)=>Y c elem (if lo == hi then (a.off,a.off+n) else (min lo a.off,max hi (a.off+n)))
  | o=>o
def H5:Obj->Bool
 | .cells .. => true
 | _=>false
def YE:D->Bool
 | a0 _|.tuple _=>false
 | _=>true
def hw{α:Type}(P:al):Sem α->(α->Hp->Prop)->Hp->Prop
 | .pure a,Q,h=>Q a h
 | .load _ a k,Q,h=>∃v,hc h a=G v/\hw P (k v) Q h
 | .store _ a v k,Q,h=>YE v=true/\(∃u,hc h a=G u)/\vN h a=false/\hw P k Q (pB h a v)
 | .new o k,Q,h=>hw P (k h.size) Q (h.push o)
 | .shape r k,Q,h=>hw P (k (Tn h r)) Q h
 | .freeze a n k,Q,h=>hw P k Q (RU h a n)
 | .frozen a k,Q,h=>hw P (k (vN h a)) Q h
 | .getObj r k,Q,h=>∃o,h[r]? = G o/\H5 o=false/\hw P (k o) Q h
 | .setObj r o k,Q,h=>(∃o',h[r]? = G o'/\H5 o'=false)/\hw P k Q (h.setIfInBounds r o)
 | .choose q k,Q,h=>if q.forced then hw P (k 0) Q h else ∀t,hw P (k (q.cut t)) Q h
 | .sys _ _,_,_=>False
 | .program k,Q,h=>hw P (k P) Q h
 | .mark _ k,Q,h=>hw P k Q h
 | .halt _,_,_=>False
theorem vO{T:am}:∀(s:Sem α) (Q:α->Hp->Prop) (h:Hp),hw P s Q h->∀w,SI T w h ->
  ∃a w' h',s.run P w=.ok a w'/\SI T w' h'/\Q a h':=by
 intro s
 induction s with
 | pure a=>intro Q h H w hs;exact⟨a,w,h,rfl,hs,H⟩
 | load m a k ih=>
  intro Q h H w hs;obtain⟨v,hv,H⟩:=H;obtain⟨a',w',h',hr,r⟩:=ih v Q h H w hs;refine⟨a',w',h',?_,r⟩;have:w.cell? a=G v:=by rw[World.cell?,hs.heap];exact hv
  rw[Sem.run,this];exact hr
 | store m a v k ih=>
  intro Q h H w hs;obtain⟨h1,⟨u,h2⟩,h3,H⟩:=H;have Od:SI T (w.setCell a v) (pB h a v):=⟨by simp only[World.setCell,pB,hs.heap];rfl,hs.tape,hs.os,hs.output⟩
  obtain⟨a',w',h',hr,r⟩:=ih Q _ H _ Od;refine⟨a',w',h',?_,r⟩;have e1:w.cell? a=G u:=by rw[World.cell?,hs.heap];exact h2
  have e2:w.frozen? a=false:=by rw[World.frozen?,hs.heap];exact h3
  cases v<;>first|(simp[YE]at h1;done)|(simp only[Sem.run,e1,e2,a4,if_false];exact hr)
 | new o k ih=>
  intro Q h H w hs;have Od:SI T { w with heap:=w.heap.push o } (h.push o):=⟨by simp only[hs.heap],hs.tape,hs.os,hs.output⟩
  have e:w.heap.size=h.size:=by rw[hs.heap]
  obtain⟨a',w',h',hr,r⟩:=ih h.size Q _ H _ Od;refine⟨a',w',h',?_,r⟩;rw[Sem.run,e];exact hr
 | shape r k ih=>
  intro Q h H w hs;obtain⟨a',w',h',hr,r'⟩:=ih _ Q h H w hs;refine⟨a',w',h',?_,r'⟩;have:w.shape? r=Tn h r:=by rw[World.shape?,hs.heap];rfl
  rw[Sem.run,this];exact hr
 | freeze a n k ih=>
  intro Q h H w hs;have Od:SI T (w.freeze a n) (RU h a n):=by
   unfold World.freeze RU;split
   .exact hs
   .exact⟨by simp only[hs.heap];rfl,hs.tape,hs.os,hs.output⟩
  obtain⟨a',w',h',hr,r'⟩:=ih Q _ H _ Od;exact⟨a',w',h',by rw[Sem.run];exact hr,r'⟩
 | frozen a k ih=>
  intro Q h H w hs;obtain⟨a',w',h',hr,r'⟩:=ih _ Q h H w hs;refine⟨a',w',h',?_,r'⟩;have:w.frozen? a=vN h a:=by rw[World.frozen?,hs.heap];rfl
  rw[Sem.run,this];exact hr
 | getObj r k ih=>
  intro Q h H w hs;obtain⟨o,ho,hc,H⟩:=H;obtain⟨a',w',h',hr,r'⟩:=ih o Q h H w hs;refine⟨a',w',h',?_,r'⟩;have e:w.heap[r]? = G o:=by rw[hs.heap];exact ho
  simp only[Sem.run,e]
  cases o<;>first|(simp[H5]at hc;done)|exact hr
 | setObj r o k ih=>
  intro Q h H w hs;obtain⟨⟨o',ho,hc⟩,H⟩:=H;have Od:SI T { w with heap:=w.heap.setIfInBounds r o } (h.setIfInBounds r o):=⟨by simp only[hs.heap],hs.tape,hs.os,hs.output⟩
  obtain⟨a',w',h',hr,r'⟩:=ih Q _ H _ Od;refine⟨a',w',h',?_,r'⟩;have e:w.heap[r]? = G o':=by rw[hs.heap];exact ho
  simp only[Sem.run,e]
  cases o'<;>first|(simp[H5]at hc;done)|exact hr
 | choose q k ih=>
  intro Q h H w hs;simp only[hw]at H;split at H
  .rename_i hq;obtain⟨a',w',h',hr,r'⟩:=ih _ Q h H w hs;exact⟨a',w',h',by rw[Sem.run,if_pos hq];exact hr,r'⟩
  .rename_i hq;have Od:SI T { w with drawn:=w.drawn+1 } h:=⟨hs.heap,hs.tape,hs.os,hs.output⟩
   obtain⟨a',w',h',hr,r'⟩:=ih _ Q h (H (w.tape w.drawn q)) _ Od;exact⟨a',w',h',by rw[Sem.run,if_neg hq];exact hr,r'⟩
 | sys c k ih=>intro Q h H;exact H.elim
 | program k ih=>
  intro Q h H w hs;obtain⟨a',w',h',hr,r'⟩:=ih _ Q h H w hs;exact⟨a',w',h',by rw[Sem.run];exact hr,r'⟩
 | mark m k ih=>
  intro Q h H w hs;obtain⟨a',w',h',hr,r'⟩:=ih Q h H w hs;exact⟨a',w',h',by rw[Sem.run];exact hr,r'⟩
 | halt x=>intro Q h H;exact H.elim
theorem Zm{β:Type}(s:Sem α)(f:α->Sem β)(Q:β->Hp->Prop):∀h,hw P (s >>= f) Q h=hw P s (fun a h'=>hw P (f a) Q h') h:=by
 show ∀h,hw P (s.bind f) Q h=_
 induction s with
 | pure a=>intro h;rfl
 | load m a k ih=>intro h;simp only[Sem.bind,hw,ih]
 | store m a v k ih=>intro h;simp only[Sem.bind,hw,ih]
 | new o k ih=>intro h;simp only[Sem.bind,hw,ih]
 | shape r k ih=>intro h;simp only[Sem.bind,hw,ih]
 | freeze a n k ih=>intro h;simp only[Sem.bind,hw,ih]
 | frozen a k ih=>intro h;simp only[Sem.bind,hw,ih]
 | getObj r k ih=>intro h;simp only[Sem.bind,hw,ih]
 | setObj r o k ih=>intro h;simp only[Sem.bind,hw,ih]
 | choose q k ih=>intro h;simp only[Sem.bind,hw,ih]
 | sys c k ih=>intro h;simp only[Sem.bind,hw]
 | program k ih=>intro h;simp only[Sem.bind,hw,ih]
 | mark m k ih=>intro h;simp only[Sem.bind,hw,ih]
 | halt x=>intro h;rfl
theorem mi{Q Q':α->Hp->Prop}(hq:∀a h,Q a h->Q' a h):∀(s:Sem α) (h:Hp),hw P s Q h->hw P s Q' h:=by
 intro s
 induction s with
 | pure a=>intro h H;exact hq _ _ H
 | load m a k ih=>intro h H;obtain⟨v,hv,H⟩:=H;exact⟨v,hv,ih _ _ H⟩
 | store m a v k ih=>intro h H;obtain⟨h1,h2,h3,H⟩:=H;exact⟨h1,h2,h3,ih _ H⟩
 | new o k ih=>intro h H;exact ih _ _ H
 | shape r k ih=>intro h H;exact ih _ _ H
 | freeze a n k ih=>intro h H;exact ih _ H
 | frozen a k ih=>intro h H;exact ih _ _ H
 | getObj r k ih=>intro h H;obtain⟨o,h1,h2,H⟩:=H;exact⟨o,h1,h2,ih _ _ H⟩
 | setObj r o k ih=>intro h H;obtain⟨h1,H⟩:=H;exact⟨h1,ih _ H⟩
 | choose q k ih=>
  intro h H;simp only[hw]at H ⊢;split at H
  .rename_i hf;rw[if_pos hf];exact ih _ _ H
  .rename_i hf;rw[if_neg hf];exact fun t=>ih _ _ (H t)
 | sys c k ih=>intro h H;exact H
 | program k ih=>intro h H;exact ih _ _ H
 | mark m k ih=>intro h H;exact ih _ H
 | halt x=>intro h H;exact H
def Zd(P:al)(T:am)(f:FuncId)(args:Array D)(h:Hp)(Q:D->Hp->Prop):Prop:=
 ∀w,SI T w h->Calls P f args w fun e w'=>∃v h',e=.returned v/\SI T w' h'/\Q v h'
theorem Zd.mono{T:am}{f:FuncId}{args:Array D}{Q':D->Hp->Prop}(H:Zd P T f args h Q)(hq:∀v h',Q v h'->Q' v h'):Zd P T f args h Q':=
 fun w hs=>(H w hs).mono fun _ _ ⟨v,h',he,Od,q⟩=>⟨v,h',he,Od,hq _ _ q⟩
def JA(P:al)(T:am)(K:D->Hp->Prop):Next->Hp->Prop
 | .value v,h=>K v h
 | .skip,h=>K undef h
 | .enter f args,h=>Zd P T f args h K
 | _,_=>False
def EN(P:al)(T:am)(o:Oper)(K:D->Hp->Prop)(F:Env)(h:Hp):Prop:=
 hw P (execOp (ev F) o) (JA P T K) h
theorem Gt{T:am}{K K':D->Hp->Prop}(hk:∀v h,K v h->K' v h):∀(x:Next) (h:Hp),JA P T K x h->JA P T K' x h:=by
 intro x h H
 cases x<;>simp only[JA]at H ⊢<;>first|exact hk _ _ H|exact H.mono hk
theorem MX{T:am}{o:Oper}{K K':D->Hp->Prop}{F:Env}(hk:∀v h,K v h->K' v h)(H:EN P T o K F h):EN P T o K' F h:=
 mi (Gt hk) _ _ H
theorem DA{T:am}{o:Oper}{K:D->Hp->Prop}{F:Env}(H:EN P T o K F h){a:Act}{w:am}(hF:env a=F)(hs:SI T w h){next:Act->am->Prop}{Q:Exit->Act->am->Prop}(hk:∀v w' h',SI T w' h'->K v h'->next (a.put o.dst v) w'):o.wp P a w next Q:=by
 obtain⟨x,w',h',hr,Od,hx⟩:=vO _ _ _ H w hs;unfold Oper.wp;rw[AX,hF,hr]
 cases x<;>simp only[JA]at hx
 case value v=>exact hk _ _ _ Od hx
 case skip=>exact hk _ _ _ Od hx
 case enter f args=>
  simp only[Oper.upon];exact (hx w' Od).mono fun e w'' ⟨v,Kw,he,Zri,q⟩=>by subst he;exact hk _ _ _ Zri q
def Vd(ops:Array Oper)(F:Env)(j:Nat):Option Bool:=
 match (ops[j]?).bind (·.dst) with
 | some t=>match F t with
  | aa b=>G b
  | _=>U
 | none=>U
def YK(ops:Array Oper)(o:Oper)(F:Env):Bool:=br o (Vd ops F)
def vP(n:Nat)(o:Oper):Bool:=match o.dst with|some d=>Nat.blt d n|none=>true
def IA(n:Nat)(ops:Array Oper):Bool:=ops.toList.all (vP n)
theorem Mh{o:Oper}(h:vP n o=true):∀d,o.dst=G d->d<n:=by
 intro d hd;unfold vP at h;rw[hd]at h;exact Nat.blt_eq.mp h
theorem IB{ops:Array Oper}(Um:IA n ops=true)(a:Act)(hn:a.tmps.size=n):yielded ops a.tmps=Vd ops (env a):=by
 funext j
 unfold yielded Vd
 cases hj:ops[j]? with
 | none=>rfl
 | some o=>
  simp only[aw]
  cases hd:o.dst with
  | none=>rfl
  | some d=>
   have ZT:d<a.tmps.size:=by
    rw[hn];have hm:o∈ops.toList:=by
     have:=cd hj
     simpa using this
    exact Mh (b5.1 Um o hm) d hd
   simp only[aw];rw[bg ZT];have:env a d=a.tmps[d]:=by simp[env,ZT]
   rw[this]
   cases a.tmps[d]<;>rfl
def pC(P:al)(T:am)(ops:Array Oper)(N:Env->Hp->Prop):List Oper->Env->Hp->Prop
 | [],F,h=>N F h
 | o :: l,F,h=>
  if YK ops o F then EN P T o (fun v h'=>pC P T ops N l (YD F o.dst v) h') F h
  else pC P T ops N l (YD F o.dst undef) h
def Zcp(n:Nat)(T:am)(N:Env->Hp->Prop)(X:Nat->Env->Hp->Prop)(R:Env->Hp->Prop)(e:Exit)(a:Act)(w:am):Prop:=
 a.tmps.size=n/\a.defers=[]/\∃h,SI T w h/\match e with
  | .normal=>N (env a) h
  | .exit j=>X j (env a) h
  | .ret=>R (env a) h
  | _=>False
def VS(P:al)(n:Nat)(T:am)(c:Code)(N:Env->Hp->Prop)(X:Nat->Env->Hp->Prop)(R:Env->Hp->Prop)(F:Env)(h:Hp):Prop:=
 ∀a w,a.tmps.size=n->a.defers=[]->env a=F->SI T w h->c.wp P (Zcp n T N X R) a w
section
variable {P:al} {n:Nat} {T:am} {N:Env->Hp->Prop} {X:Nat->Env->Hp->Prop} {R:Env->Hp->Prop} {F:Env} {h:Hp}
theorem VS.mono{c:Code}{N':Env->Hp->Prop}{X':Nat->Env->Hp->Prop}{R':Env->Hp->Prop}(H:VS P n T c N X R F h)(hN:∀F h,N F h->N' F h)(hX:∀j F h,X j F h->X' j F h)(hR:∀F h,R F h->R' F h):VS P n T c N' X' R' F h:=by
 intro a w h1 h2 h3 h4;refine Code.wp_mono (fun e a w ⟨q1,q2,h,q3,q4⟩=>⟨q1,q2,h,q3,?_⟩) (H a w h1 h2 h3 h4)
 cases e<;>simp only at q4 ⊢<;>first|exact hN _ _ q4|exact hX _ _ _ q4|exact hR _ _ q4
theorem VS.seq{c d:Code}(H:VS P n T c (fun F h=>VS P n T d N X R F h) X R F h):VS P n T (.seq c d) N X R F h:=by
 intro a w h1 h2 h3 h4;refine wp_seq (Code.wp_mono (fun e a w ⟨q1,q2,h,q3,q4⟩=>?_) (H a w h1 h2 h3 h4))
 cases e with
 | normal=>exact q4 a w q1 q2 rfl q3
 | exit j=>exact⟨q1,q2,h,q3,q4⟩
 | ret=>exact⟨q1,q2,h,q3,q4⟩
 | _=>exact q4.elim
theorem VS.skip(H:N F h):VS P n T .skip N X R F h:=by
 intro a w h1 h2 h3 h4;exact wp_skip ⟨h1,h2,h,h4,by rw[h3];exact H⟩
theorem VS.ret(H:R F h):VS P n T .ret N X R F h:=by
 intro a w h1 h2 h3 h4;exact wp_ret ⟨h1,h2,h,h4,by rw[h3];exact H⟩
theorem VS.exit{j:Nat}(H:X j F h):VS P n T (.exit j) N X R F h:=by
 intro a w h1 h2 h3 h4;exact wp_exit ⟨h1,h2,h,h4,by rw[h3];exact H⟩
theorem VS.block{j:Nat}{c:Code}(H:VS P n T c N (fun i F h=>if i=j then N F h else X i F h) R F h):VS P n T (.block j c) N X R F h:=by
 intro a w h1 h2 h3 h4;refine wp_block (Code.wp_mono (fun e a w ⟨q1,q2,h,q3,q4⟩=>?_) (H a w h1 h2 h3 h4))
 cases e with
 | normal=>exact⟨q1,q2,h,q3,q4⟩
 | exit i=>
  simp only[Exit.inBlock];simp only at q4;split
  .rename_i vd;rw[if_pos vd]at q4;exact⟨q1,q2,h,q3,q4⟩
  .rename_i vd;rw[if_neg vd]at q4;exact⟨q1,q2,h,q3,q4⟩
 | ret=>exact⟨q1,q2,h,q3,q4⟩
 | _=>exact q4.elim
theorem VS.cond{c:a6}{x y:Code}{b:Bool}(hc:ev F c=aa b)(ht:b=true->VS P n T x N X R F h)(hf:b=false->VS P n T y N X R F h):
  VS P n T (.cond c x y) N X R F h:=by
 intro a w h1 h2 h3 h4;refine wp_cond_split (t:=b) (by rw[AX,h3];exact hc) (fun hb=>ht hb a w h1 h2 h3 h4) (fun hb=>hf hb a w h1 h2 h3 h4)
theorem VS.loop{c:Code}(I:Env->Hp->Prop)(μ:Env->Hp->Nat)(h0:I F h)(round:∀F h,I F h->VS P n T c (fun F' h'=>I F' h'/\μ F' h'<μ F h) X R F h):VS P n T (.loop c) N X R F h:=by
 intro a w h1 h2 h3 h4;refine wp_loop (fun a w=>a.tmps.size=n/\a.defers=[]/\SI T w w.heap/\I (env a) w.heap) (fun a w=>μ (env a) w.heap)
  ⟨h1,h2,by rw[h4.heap];exact h4,by rw[h3,h4.heap];exact h0⟩ ?_
 intro a w ⟨q1,q2,q3,q4⟩;refine Code.wp_mono (fun e a' w' ⟨p1,p2,h',p3,p4⟩=>?_) (round (env a) w.heap q4 a w q1 q2 rfl q3)
 cases e with
 | normal=>
  have e:=p3.heap;subst e;exact⟨⟨p1,p2,p3,p4.1⟩,p4.2⟩
 | exit j=>exact⟨p1,p2,h',p3,p4⟩
 | ret=>exact⟨p1,p2,h',p3,p4⟩
 | _=>exact p4.elim
theorem To{ops:Array Oper}(Um:IA n ops=true):∀(l:List Oper) (F:Env) (h:Hp),(∀o∈l,o∈ops.toList)->pC P T ops N l F h ->
  ∀a w,a.tmps.size=n->a.defers=[]->env a=F->SI T w h->wpList P ops (Zcp n T N X R) l a w
 | [],F,h,_,H,a,w,h1,h2,h3,h4=>⟨h1,h2,h,h4,by rw[h3];exact H⟩
 | o :: l,F,h,hm,H,a,w,h1,h2,h3,h4=>by
  have hd:∀d,o.dst=G d->d<a.tmps.size:=by
   rw[h1];exact Mh (b5.1 Um o (hm o IQ))
  have H6:∀o∈l,o∈ops.toList:=fun x hx=>hm x (by simp[hx]);have Gu:br o (yielded ops a.tmps)=YK ops o F:=by rw[IB Um a h1,h3];rfl
  unfold wpList;rw[Gu];unfold pC at H;split at H
  .rename_i hw;rw[if_pos hw];refine .inl (DA H h3 h4 fun v w' h' Od hk=>?_);exact To Um l _ h' H6 hk _ _ (by rw[MW,h1]) (by cases o.dst<;>exact h2) (by rw[H4 a _ _ hd,h3]) Od
  .rename_i hw;rw[if_neg hw];exact To Um l _ h H6 H _ _ (by rw[MW,h1]) (by cases o.dst<;>exact h2) (by rw[H4 a _ _ hd,h3]) h4
theorem VS.region{id:Nat}{ops:Array Oper}(Um:IA n ops=true)(H:pC P T ops N ops.toList F h):VS P n T (.region id ops false) N X R F h:=by
 intro a w h1 h2 h3 h4;exact wp_region_list (To Um ops.toList F h (fun _ h=>h) H a w h1 h2 h3 h4)
def UA(P:al)(T:am)(ops:Array Oper)(i:Nat)(K:Env->Hp->Prop)(F:Env)(h:Hp):Prop:=
 match ops[i]? with
 | none=>K F h
 | some o=>if YK ops o F then EN P T o (fun v h'=>K (YD F o.dst v) h') F h else K (YD F o.dst undef) h
theorem Qh{ops:Array Oper}{K K':Env->Hp->Prop}(hk:∀F h,K F h->K' F h){F:Env}(H:UA P T ops i K F h):UA P T ops i K' F h:=by
 unfold UA at *;split at H
 .exact hk _ _ H
 .split at H
  .rename_i hw;rw[if_pos hw];exact MX (fun _ _ q=>hk _ _ q) H
  .rename_i hw;rw[if_neg hw];exact hk _ _ H
def gq(P:al)(T:am)(ops:Array Oper)(S:Hp->Prop)(N:Env->Hp->Prop):Nat->Array Bool->Env->Hp->Prop
 | 0,listed,F,h=>bb .any ops listed=[]/\N F h
 | k+1,listed,F,h=>(bb .any ops listed=[]->N F h) /\
   ∀i∈bb .any ops listed,UA P T ops i (fun F' h'=>S h'/\gq P T ops S N k (listed.setIfInBounds i true) F' h') F h
theorem QN{ops:Array Oper}{S:Hp->Prop}(Um:IA n ops=true):∀(k:Nat) (listed:Array Bool) (F:Env) (h:Hp),gq P T ops S N k listed F h ->
  ∀a w,a.tmps.size=n->a.defers=[]->env a=F->SI T w h->wpAny P .any ops (Zcp n T N X R) k listed a w
 | 0,listed,F,h,H,a,w,h1,h2,h3,h4=>⟨H.1,h1,h2,h,h4,by rw[h3];exact H.2⟩
 | k+1,listed,F,h,H,a,w,h1,h2,h3,h4=>by
  refine⟨fun h0=>⟨h1,h2,h,h4,by rw[h3];exact H.1 h0⟩,fun i hi=>?_⟩;have Hi:=H.2 i hi;unfold UA at Hi;unfold wpOp
  cases ho:ops[i]? with
  | none=>rw[ho]at Hi;exact QN Um k _ F h Hi.2 a w h1 h2 h3 h4
  | some o=>
   rw[ho]at Hi;simp only at Hi ⊢;have hd:∀d,o.dst=G d->d<a.tmps.size:=by
    rw[h1];exact Mh (b5.1 Um o (by have:=cd ho;simpa using this))
   have Gu:br o (yielded ops a.tmps)=YK ops o F:=by rw[IB Um a h1,h3];rfl
   rw[Gu];split at Hi
   .rename_i hw;rw[if_pos hw];refine .inl (DA Hi h3 h4 fun v w' h' Od hk=>?_);exact QN Um k _ _ h' hk.2 _ _ (by rw[MW,h1]) (by cases o.dst<;>exact h2) (by rw[H4 a _ _ hd,h3]) Od
   .rename_i hw;rw[if_neg hw];exact QN Um k _ _ h Hi.2 _ _ (by rw[MW,h1]) (by cases o.dst<;>exact h2) (by rw[H4 a _ _ hd,h3]) h4
def Wh(P:al)(T:am)(ops:Array Oper)(S:Hp->Prop)(o:Oper)(v:D)(F:Env):Prop:=
 (YK ops o F=true/\∀h,S h->EN P T o (fun v' h'=>v'=v/\h'=h) F h)\/(YK ops o F=false/\v=undef)
theorem Zcq{F:Env}{dst:Option Nat}(hx:∀d,dst=G d->x ≠ .tmp d):ev (YD F dst v) x=ev F x:=by
 cases dst with
 | none=>rfl
 | some d=>
  cases x with
  | tmp t=>
   have Y7:t≠d:=fun e=>hx d rfl (by rw[e]);show (if t=d then v else F t)=F t;rw[if_neg Y7]
  | _=>rfl
theorem IC{ops:Array Oper}(o:Oper)(hs:∀cs b,o.op ≠ .select cs b)(F:Env)(dst:Option Nat)(v:D)(h:∀d,dst=G d->d ∉ o.looksAt ops):
  execOp (ev (YD F dst v)) o=execOp (ev F) o:=
 execOp_congr o hs fun x hx=>Zcq fun d hd hxd=>h d hd (by
  subst hxd;exact List.mem_append_left _ (List.mem_filterMap.2 ⟨.tmp d,by simpa using hx,rfl⟩))
theorem MY{ops:Array Oper}(o:Oper)(F:Env)(dst:Option Nat)(v:D)(h:∀d,dst=G d->d ∉ o.looksAt ops):
  YK ops o (YD F dst v)=YK ops o F:=by
 cases dst with
 | none=>rfl
 | some d=>
  unfold YK br
  cases hg:o.guard with
  | none=>rfl
  | some gw=>
   obtain⟨g,want⟩:=gw;simp only;have hd:=h d rfl;unfold Oper.looksAt at hd;rw[hg]at hd;simp only[List.mem_append,not_or]at hd;have:Vd ops (YD F (G d) v) g=Vd ops F g:=by
    unfold Vd
    cases hb:(ops[g]?).bind (·.dst) with
    | none=>rfl
    | some t=>
     have Y7:t≠d:=fun e=>hd.2 (by rw[hb,e];simp);show (match (if t=d then v else F t) with|aa b=>G b|_=>U)=_;rw[if_neg Y7]
   rw[this]
theorem DB(F:Env){d d':Option Nat}(v v':D)(h:∀x,d=G x->d'≠G x):YD (YD F d v) d' v'=YD (YD F d' v') d v:=by
 cases d with
 | none=>rfl
 | some x=>
  cases d' with
  | none=>rfl
  | some y=>
   have Y7:y≠x:=fun e=>h x rfl (by rw[e])
   funext t
   simp only[YD,upd];by_cases h1:t=y
   .subst h1;rw[if_pos rfl,if_neg Y7,if_pos rfl]
   .rw[if_neg h1];by_cases h2:t=x
    .rw[if_pos h2,if_pos h2]
    .rw[if_neg h2,if_neg h2,if_neg h1]
theorem Wh.put{ops:Array Oper}{S:Hp->Prop}{o:Oper}(hs:∀cs b,o.op ≠ .select cs b){F:Env}(hy:Wh P T ops S o v F){dst:Option Nat}{u:D}(h:∀d,dst=G d->d ∉ o.looksAt ops):Wh P T ops S o v (YD F dst u):=by
 unfold Wh EN at *;rw[MY o F dst u h,IC o hs F dst u h];exact hy
theorem Wh.opI{ops:Array Oper}{S:Hp->Prop}{o:Oper}{F:Env}(hi:ops[i]? = G o)(hy:Wh P T ops S o v F)(hS:S h){K:Env->Hp->Prop}(H:K (YD F o.dst v) h):UA P T ops i K F h:=by
 unfold UA;rw[hi];rcases hy with⟨hw,hv⟩|⟨hw,rfl⟩
 .simp only[hw,if_true];exact MX (fun v' h' ⟨e1,e2⟩=>by subst e1;subst e2;exact H) (hv h hS)
 .simp only[hw,a4,if_false];exact H
theorem Gv{ops:Array Oper}{S:Hp->Prop}{j:Nat}{oi oj:Oper}(hj:ops[j]? = G oj)(hap:oi.apart ops oj=true)(hsi:∀cs b,oi.op ≠ .select cs b)(hsj:∀cs b,oj.op ≠ .select cs b){K:Env->Hp->Prop}{F:Env}(hy:Wh P T ops S oi v F)(H:UA P T ops j K (YD F oi.dst v) h):UA P T ops j (fun F' h'=>Wh P T ops S oi v F'/\K (YD F' oi.dst v) h') F h:=by
 obtain⟨h1,h2,h3⟩:=Oper.apart_spec hap;unfold UA at *;rw[hj]at *;simp only at *;rw[MY oj F oi.dst v h1]at H;split at H
 .rename_i hw;rw[if_pos hw];unfold EN at *;rw[IC oj hsj F oi.dst v h1]at H;refine mi (Gt fun u h' q=>?_) _ _ H;exact⟨hy.put hsi h3,by rw[<-DB F v u h2];exact q⟩
 .rename_i hw;rw[if_neg hw];exact⟨hy.put hsi h3,by rw[<-DB F v undef h2];exact H⟩
theorem Gw{ops:Array Oper}{S:Hp->Prop}{oi:Oper}(hi:ops[i]? = G oi)(AY:∀(j:Nat) (o:Oper) cs b,ops[j]? = G o->o.op ≠ .select cs b):
  ∀(k:Nat) (listed:Array Bool) (F:Env) (h:Hp),
   (∀j oj,ops[j]? = G oj->j≠i->listed.getD j true=false->(∀e∈oj.after,ct .any e=true->e.on≠i)->oi.apart ops oj=true) ->
   i∈bb .any ops listed->Wh P T ops S oi v F->S h ->
   gq P T ops S N k (listed.setIfInBounds i true) (YD F oi.dst v) h->gq P T ops S N (k+1) listed F h:=by
 intro k
 induction k with
 | zero=>
  intro listed F h _ hr hy hS H;refine⟨fun h=>(by rw[h]at hr;cases hr),fun j hj=>?_⟩;by_cases Sd:j=i
  .subst Sd;exact hy.opI hi hS ⟨hS,H⟩
  .have:=ready_mono hj Sd;rw[H.1]at this
   cases this
 | succ k ih=>
  intro listed F h ID hr hy hS H;refine⟨fun h=>(by rw[h]at hr;cases hr),fun j hj=>?_⟩;by_cases Sd:j=i
  .subst Sd;exact hy.opI hi hS ⟨hS,H⟩
  .have h1:=H.2 j (ready_mono hj Sd);obtain⟨AZ,oj,pD,XO⟩:=mem_ready.1 hj;have CY:∀e∈oj.after,ct .any e=true->e.on≠i:=fun e he hb heq=>by
    have h1:=XO e he hb;have h0:=(mem_ready.1 hr).1;rw[heq]at h1;rcases Nat.lt_or_ge i listed.size with h'|h'
    .simp[h']at h0 h1;rw[h0]at h1;cases h1
    .simp[b9 h']at h1
   have h2:=Gv pD (ID j oj pD Sd AZ CY) (fun cs b=>AY i oi cs b hi) (fun cs b=>AY j oj cs b pD) hy h1;have Gx:∀k ok,ops[k]? = G ok->k≠i->(listed.setIfInBounds j true).getD k true=false ->
     (∀e∈ok.after,ct .any e=true->e.on≠i)->oi.apart ops ok=true:=fun k ok hk hki hun mj=>by
    refine ID k ok hk hki ?_ mj;by_cases mm:j=k
    .subst mm;exact AZ
    .rw[getD_set_ne true mm]at hun;exact hun
   refine Qh (fun F' h' h3=>⟨h3.2.1,ih (listed.setIfInBounds j true) F' h' Gx (ready_mono hr (Ne.symm Sd)) h3.1 h3.2.1 ?_⟩) h2;rw[Array.setIfInBounds_comm _ _ Sd];exact h3.2.2
def MZ(P:al)(T:am)(ops:Array Oper)(S:Hp->Prop)(N:Env->Hp->Prop):List (Nat × Bool × Oper)->Env->Hp->Prop
 | [],F,h=>N F h
 | (_,q,o) :: l,F,h=>
  if YK ops o F then
   if q then ∃v,(∀h',S h'->EN P T o (fun v' Kw=>v'=v/\Kw=h') F h')/\MZ P T ops S N l (YD F o.dst v) h
   else EN P T o (fun v h'=>S h'/\MZ P T ops S N l (YD F o.dst v) h') F h
  else MZ P T ops S N l (YD F o.dst undef) h
def VA(ops:Array Oper)(l:List (Nat × Bool)):List (Nat × Bool × Oper):=l.map fun (i,q)=>(i,q,ops.getD i default)
def Gy(ops:Array Oper):List (Nat × Bool)->Array Bool->Bool
 | [],listed=>(bb .any ops listed).isEmpty
 | (i,q) :: l,listed=>
  (if q then (bb .any ops listed).contains i&&Region.free .any ops listed i else (bb .any ops listed == [i]))&&Gy ops l (listed.setIfInBounds i true)
theorem UB{ops:Array Oper}{S:Hp->Prop}(hs:cP ops=true):∀(l:List (Nat × Bool)) (listed:Array Bool) (F:Env) (h:Hp),Gy ops l listed=true->S h ->
  MZ P T ops S N (VA ops l) F h->gq P T ops S N (M l) listed F h
 | [],listed,F,h,hB,_,H=>⟨by simpa [Gy] using hB,H⟩
 | (i,q) :: l,listed,F,h,hB,hS,H=>by
  simp only[Gy,aO]at hB;obtain⟨Ve,Oe⟩:=hB;have Mi:i∈bb .any ops listed:=by
   cases q
   .simp only[a4,if_false,beq_iff_eq]at Ve;rw[Ve];simp
   .simp only[if_true,aO]at Ve;simpa using Ve.1
  obtain⟨_,o,ho,_⟩:=mem_ready.1 Mi;have hp:VA ops ((i,q) :: l)=(i,q,o) :: VA ops l:=by simp[VA,ho]
  rw[hp]at H;simp only[MZ]at H
  cases q with
  | true=>
   simp only[if_true,aO]at Ve H;split at H
   .rename_i hw;obtain⟨v,hv,H⟩:=H;exact Gw ho (ch hs) (M l) listed F h (cA ho Ve.2) Mi (.inl ⟨hw,hv⟩) hS (UB hs l _ _ _ Oe hS H)
   .rename_i hw;exact Gw ho (ch hs) (M l) listed F h (cA ho Ve.2) Mi (.inr ⟨by simpa using hw,rfl⟩) hS (UB hs l _ _ _ Oe hS H)
  | false=>
   simp only[a4,if_false,beq_iff_eq]at Ve H;refine⟨fun h0=>(by rw[h0]at Mi;cases Mi),fun j hj=>?_⟩;rw[Ve]at hj;have hj:j=i:=by simpa using hj
   subst hj;unfold UA;rw[ho];simp only;split at H
   .rename_i hw;rw[if_pos hw];exact MX (fun v h' q=>⟨q.1,UB hs l _ _ _ Oe q.1 q.2⟩) H
   .rename_i hw;rw[if_neg hw];exact⟨hS,UB hs l _ _ _ Oe hS H⟩
def Ra(n:Nat)(ops:Array Oper)(l:List (Nat × Bool)):Bool:=
 IA n ops&&(cP ops&&(Gy ops l (cR ops.size false)&&Nat.beq (M l) ops.size))
theorem VS.held{id:Nat}{ops:Array Oper}(S:Hp->Prop)(l:List (Nat × Bool))(hm:P.follows .mixedOrders=true)(Um:Ra n ops l=true)(hS:S h)(H:MZ P T ops S N (VA ops l) F h):VS P n T (.region id ops true) N X R F h:=by
 intro a w h1 h2 h3 h4;simp only[Ra,aO]at Um;obtain⟨k1,k2,k3,k4⟩:=Um;refine wp_region_any hm ?_;have hl:(M l)=ops.size:=Nat.eq_of_beq_eq_true k4;rw[<-hl];refine QN k1 _ _ F h (UB k2 l _ F h (by rw[hl];exact k3) hS H) a _ h1 h2 h3 ⟨h4.heap,h4.tape,h4.os,h4.output⟩
theorem VS.quiet{id:Nat}{ops:Array Oper}(hm:P.follows .mixedOrders=true)(Um:Ra n ops ((bo ops.size).map fun i=>(i,true))=true)(H:MZ P T ops (fun h'=>h'=h) N (VA ops ((bo ops.size).map fun i=>(i,true))) F h):VS P n T (.region id ops true) N X R F h:=
 VS.held (fun h'=>h'=h) _ hm Um rfl H
def hr{α:Type}(P:al):Sem α->Hp->Option α
 | .pure a,_=>G a
 | .load _ a k,h=>(hc h a).bind fun v=>hr P (k v) h
 | .shape r k,h=>hr P (k (Tn h r)) h
 | .frozen a k,h=>hr P (k (vN h a)) h
 | .program k,h=>hr P (k P) h
 | _,_=>U
theorem vQ{T:am}:∀(s:Sem α) (h:Hp) (a:α),hr P s h=G a->∀w,SI T w h->s.run P w=.ok a w:=by
 intro s
 induction s with
 | pure a=>intro h b H w hs;simp only[hr,Option.some.injEq]at H;rw[H];rfl
 | load m a k ih=>
  intro h b H w hs;simp only[hr]at H
  cases hv:hc h a with
  | none=>rw[hv]at H;cases H
  | some v=>
   rw[hv]at H;have:w.cell? a=G v:=by rw[World.cell?,hs.heap];exact hv
   rw[Sem.run,this];exact ih v h b H w hs
 | shape r k ih=>
  intro h b H w hs;have:w.shape? r=Tn h r:=by rw[World.shape?,hs.heap];rfl
  rw[Sem.run,this];exact ih _ h b H w hs
 | frozen a k ih=>
  intro h b H w hs;have:w.frozen? a=vN h a:=by rw[World.frozen?,hs.heap];rfl
  rw[Sem.run,this];exact ih _ h b H w hs
 | program k ih=>intro h b H w hs;rw[Sem.run];exact ih _ h b H w hs
 | _=>intro h b H;cases H
theorem QV{β:Type}(s:Sem α)(f:α->Sem β):∀h,hr P (s >>= f) h=(hr P s h).bind fun a=>hr P (f a) h:=by
 show ∀h,hr P (s.bind f) h=_
 induction s with
 | load m a k ih=>intro h;simp only[Sem.bind,hr,ih];cases hc h a<;>rfl
 | shape r k ih=>intro h;simp only[Sem.bind,hr,ih]
 | frozen a k ih=>intro h;simp only[Sem.bind,hr,ih]
 | program k ih=>intro h;simp only[Sem.bind,hr,ih]
 | _=>intro h;rfl
def M3(P:al)(t:O)(v:D)(h:Hp):Option D:=
 match v with
 | J (G a)=>hr P (loadVar t a) h
 | _=>U
def QW(P:al)(F:Env)(h:Hp):List ResultVar->Option (List D)
 | []=>G []
 | .tmp t :: l=>(QW P F h l).map (F t :: ·)
 | .cell a t :: l=>(M3 P t (F a) h).bind fun v=>(QW P F h l).map (v :: ·)
def Mj:List D->D
 | [v]=>v
 | l=>.tuple l.toArray
def Gz(P:al)(l:List ResultVar)(F:Env)(Q:D->Hp->Prop)(h:Hp):Prop:=
 match QW P F h l with
 | some vs=>Q (Mj vs) h
 | none=>False
def Zcr(F:Env):ResultVar->Sem D
 | .tmp t=>pure (F t)
 | .cell a t=>do loadVar t (<-asAddr (F a))
theorem pE{F:Env}:∀(l:List ResultVar) (vs:List D),QW P F h l=G vs->hr P (l.mapM (Zcr F)) h=G vs:=by
 intro l
 induction l with
 | nil=>intro vs H;simp only[QW,Option.some.injEq]at H;subst H;rfl
 | cons x l ih=>
  intro vs H;rw[bR,QV]
  cases x with
  | tmp t=>
   simp only[QW]at H
   cases hl:QW P F h l with
   | none=>rw[hl]at H;cases H
   | some us=>
    rw[hl]at H;simp only[a1,Option.some.injEq]at H;subst H;show (G (F t)).bind _=_;rw[aw,QV,ih us hl];rfl
  | cell a t=>
   simp only[QW]at H
   cases hv:M3 P t (F a) h with
   | none=>rw[hv]at H;cases H
   | some v=>
    rw[hv]at H
    cases hl:QW P F h l with
    | none=>rw[hl]at H;cases H
    | some us=>
     rw[hl]at H;simp only[aw,a1,Option.some.injEq]at H;subst H;have e:hr P (Zcr F (.cell a t)) h=G v:=by
      show hr P (asAddr (F a) >>= fun b=>loadVar t b) h=G v;unfold M3 at hv;split at hv
      .rename_i b hb;rw[hb,QV];exact hv
      .cases hv
     rw[e,aw,QV,ih us hl];rfl
theorem A0{fn:Func}{l:List ResultVar}(hl:fn.results=l.toArray){a:Act}{vs:List D}(H:QW P (env a) h l=G vs){w:am}(hs:SI T w h):
  (results fn a.tmps).run P w=.ok (Mj vs) w:=by
 have e:results fn a.tmps=(do let us <-fn.results.mapM (Zcr (env a));pure (if h:us.size=1 then us[0] else .tuple us)):=by
  have e1:(fun x:ResultVar=>match x with|.tmp t=>(pure (a.tmps.getD t undef):Sem D)|.cell x t=>do loadVar t (<-asAddr (a.tmps.getD x undef)))=Zcr (env a):=by
   funext x
   cases x<;>rfl
  rw[<-e1];rfl
 rw[e,hl];refine vQ (T:=T) _ h _ ?_ w hs;rw[QV,cu,map_eq_pure_bind,QV,pE l vs H];show G _=_
 congr 1
 match vs with
 | []=>rfl
 | [v]=>rfl
 | v :: u :: l=>simp[Mj]
end
theorem pF(args:Array D)(k:Nat):env { tmps:=args++cR k undef,defers:=[] } = HE args.toList 0:=by
 have key:∀(l:List D) (j t:Nat),HE l j t=if j<=t then (l[t-j]?).getD undef else undef:=by
  intro l
  induction l with
  | nil=>intro j t;simp[HE]
  | cons v l ih=>
   intro j t;simp only[HE,upd];by_cases h:t=j
   .subst h;simp
   .rw[if_neg h,ih];by_cases h':j<=t
    .have e:t-j=(t-(j+1))+1:=pA;rw[if_pos pA,if_pos h',e];simp
    .rw[if_neg pA,if_neg h']
 funext t
 rw[key];simp only[env,Nat.zero_le,if_true,Nat.sub_zero,bN,Array.getElem?_append,cf];by_cases h:t<args.size
 .rw[if_pos h]
 .rw[if_neg h,b9 (by omega:args.size<=t)];by_cases h2:t-args.size<k
  .simp[h2]
  .simp[h2]
theorem Zd.H7{T:am}{f:FuncId}{fn:Func}{c:Code}{l:List ResultVar}{args:Array D}(hf:P.funcs[f]? = G fn)(hb:fn.body=G c)(hl:fn.results=l.toArray)(hn:c1 args.size fn.ntmps=true)(H:VS P fn.ntmps T c (fun F h'=>Gz P l F Q h') (fun _ _ _=>False) (fun F h'=>Gz P l F Q h') (HE args.toList 0) h):
  Zd P T f args h Q:=by
 intro w hs;refine calls_of_wp hf hb (Code.wp_mono (fun e a w hp=>?_) (H _ w ?_ rfl (pF _ _) hs))
 .obtain⟨q1,q2,h',q3,q4⟩:=hp;have key:Gz P l (env a) Q h'->∃v,(results fn a.tmps).run P w=.ok v w/\∃v' Kw,Ending.returned v=.returned v'/\SI T w Kw/\Q v' Kw:=by
   intro hr;unfold Gz at hr;split at hr
   .rename_i vs hvs;exact⟨_,A0 hl hvs q3,_,h',rfl,q3,hr⟩
   .exact hr.elim
  cases e with
  | normal=>exact⟨q2,key q4⟩
  | ret=>exact⟨q2,key q4⟩
  | _=>exact q4.elim
 .have:=Nat.le_of_ble_eq_true hn;simp only[Array.size_append,Array.size_replicate];omega
set_option linter.unusedSimpArgs false
set_option linter.unusedVariables false
def tz(P:al)(t:O):Option (List D):=((P.info? t).bind (·.zero)).map fun v=>v.cells.toList
def tn(P:al)(t:O):Option Nat:=(P.info? t).map (·.size)
def tb(P:al)(t:O):Option Nat:=(P.info? t).map (·.bytes)
def ta(P:al)(t:O):Option Bool:=(P.underlying t).map fun|.struct _=>true|.array _ _=>true|_=>false
def tf(P:al)(t:O)(i:Nat):Option Nat:=
 match P.underlying t with
 | some (.struct fs)=>(fs[i]?).bind fun f=>match tn P f.type with
  | some (_+1)=>G f.offset
  | _=>U
 | _=>U
def Xx(P:al)(t:O):Option (Nat × O):=match P.underlying t with|some (.array n e)=>G (n,e)|_=>U
def QY(P:al)(t:O):Option O:=match P.underlying t with|some (.slice e)=>G e|_=>U
def NS(P:al)(t:O):Option (List (Nat × Nat)):=match P.underlying t with|some (.struct fs)=>fs.toList.mapM (fun f=>(tn P f.type).map fun n=>(f.offset,n))|_=>U
def tfl(P:al)(t:O)(i:Nat):Option (Nat × O):=match P.underlying t with|some (.struct fs)=>(fs[i]?).map fun f=>(f.offset,f.type)|_=>U
def Vf(P:al)(t:O):Bool:=match P.underlying t with|some .string=>true|_=>false
def EO(P:al)(t:O):Option IntKind:=match P.underlying t with|some (.int k)=>G k|_=>U
def goes(P:al)(f:FuncId):Bool:=match P.funcs[f]? with|some fn=>!(fn.name == "runtime.NumGoroutine")&&fn.body.isSome|none=>false
def cl:D->List D
 | a0 cs=>cs.toList
 | v=>[v]
theorem M7(v:D):(cl v).toArray=v.cells:=by cases v<;>rfl
section
variable (P:al) (T:am)
def DC(c a b:D)(K:D->Hp->Prop)(h:Hp):Prop:=
 match c with|aa t=>K (if t then a else b) h|_=>False
def vS(z:Option (List D))(t:O)(K:D->Hp->Prop)(h:Hp):Prop:=
 match z with|some l=>K (J (G ⟨h.size,0,U⟩)) (h.push (Y l.toArray t))|none=>False
def rd(h:Hp)(a:Addr)(n:Nat):Option (List D):=
 match h[a.block]? with
 | some (Y c _ _)=>if a.spot=U/\a.off+n<=c.size then G ((c.toList.drop a.off).take n) else U
 | _=>U
def HF(x:Option D)(K:D->Hp->Prop)(h:Hp):Prop:=match x with|some v=>K v h|none=>False
def GA(x:Option (List D))(K:D->Hp->Prop)(h:Hp):Prop:=match x with|some l=>K (a0 l.toArray) h|none=>False
def La(s:Option Bool)(n:Option Nat)(p:D)(K:D->Hp->Prop)(h:Hp):Prop:=
 match p with
 | J (G a)=>match s,n with
  | some false,_=>HF (hc h a) K h
  | some true,G n=>GA (rd h a n) K h
  | _,_=>False
 | _=>False
def Xd:List D->Nat->List D->List D
 | l,_,[]=>l
 | [],_,_ :: _=>[]
 | _ :: l,0,v :: vs=>v :: Xd l 0 vs
 | x :: l,n+1,v :: vs=>x :: Xd l n (v :: vs)
def wr(h:Hp)(a:Addr)(vs:List D):Option Hp:=
 match h[a.block]? with
 | some (Y c e (lo,hi))=>if a.spot=U/\a.off+(M vs)<=c.size/\hi<=lo/\vs.all YE=true then G (h.setIfInBounds a.block (Y (Xd c.toList a.off vs).toArray e (lo,hi))) else U
 | _=>U
def QX(h:Hp)(a:Addr)(v:D):Option Hp:=
 match h[a.block]? with
 | some (Y c e (lo,hi))=>if a.spot=U/\a.off<c.size/\hi<=lo/\YE v=true then G (h.setIfInBounds a.block (Y (c.setIfInBounds a.off v) e (lo,hi))) else U
 | _=>U
def mo(x:Option Hp)(K:D->Hp->Prop):Prop:=match x with|some h'=>K undef h'|none=>False
def VB(n:Option Nat)(p v:D)(K:D->Hp->Prop)(h:Hp):Prop:=
 match p,n with
 | J (G a),G n=>
  if n=(cl v).length then
   match v with
   | a0 cs=>mo (wr h a cs.toList) K
   | v=>mo (QX h a v) K
  else False
 | _,_=>False
def Mk(f:Option Nat)(p:D)(K:D->Hp->Prop)(h:Hp):Prop:=
 match f,p with
 | some o,J (G a)=>K (J (G (a.add o))) h
 | _,_=>False
def XP(op:BinOp)(t:O)(x y:a6)(a b:D)(K:D->Hp->Prop)(h:Hp):Prop:=
 hw P (do eqGuard op t x y a b;binOp op t a b) K h
def vUn(op:UnOp)(a:D)(K:D->Hp->Prop)(h:Hp):Prop:=hw P (Op.unary op a) K h
def Lb(src dst:O)(a:D)(K:D->Hp->Prop)(h:Hp):Prop:=hw P (convert src dst a) K h
def vIx(arr:Option (Nat × O))(sl:Option O)(n:O->Option Nat)(p i:D)(K:D->Hp->Prop)(h:Hp):Prop:=
 match i with
 | .int _ i=>(match arr,sl,p with
  | some (len,e),U,J (G a)=>(match n e with
   | some n=>if 0<=i/\i<(len:Int) then K (J (G (a.add (i.toNat*n)))) h else False
   | none=>False)
  | none,G e,Z (G a) len _=>(match n e with
   | some n=>if 0<=i/\i<(len:Int) then K (J (G (a.add (i.toNat*n)))) h else False
   | none=>False)
  | _,_,_=>False)
 | _=>False
def Vg(v:D)(i:Nat)(K:D->Hp->Prop)(h:Hp):Prop:=
 match v with|.tuple vs=>HF (vs[i]?) K h|_=>False
def gu(v:D)(K:D->Hp->Prop)(h:Hp):Prop:=
 match v with|J (G a)=>K (J (G a)) h|.func (.func f) x y=>K (.func (.func f) x y) h|_=>False
def GB(f:D)(args:List D)(K:D->Hp->Prop)(h:Hp):Prop:=
 match f with
 | .func (.func f) first captured=>if goes P f=true then Zd P T f (first.toList++args++captured.toList).toArray h K
  else hw P (callFunc f (first.toList++args++captured.toList).toArray) (JA P T K) h
 | _=>False
def PZ(b:Builtin)(ts:Array O)(ty:O)(cs:Array Bool)(args:List D)(K:D->Hp->Prop)(h:Hp):Prop:=
 hw P (builtin b ts ty cs args.toArray) (JA P T K) h
def pG(F:Env):List a6->List D
 | []=>[]
 | x :: l=>ev F x :: pG F l
theorem CZ(F:Env)(l:List a6):pG F l=l.map (ev F):=by induction l with|nil=>rfl|cons x l ih=>simp[pG,ih]
def nth{α:Type}:List α->Nat->Option α
 | [],_=>U
 | x :: _,0=>G x
 | _ :: l,n+1=>nth l n
def Lc(n:Nat)(i:Nat):Option (Nat × Nat):=G (i*n,n)
def Vh(place:Nat->Option (Nat × Nat)):List D->List (Nat × D)->Option (List D)
 | cs,[]=>G cs
 | cs,(i,v) :: l=>match place i with
  | some (o,s)=>if (cl v).length=s/\o+s<=(M cs) then Vh place (Xd cs o (cl v)) l else U
  | none=>U
def gv(F:Env):List (Nat × a6)->List (Nat × D)
 | []=>[]
 | (i,x) :: l=>(i,ev F x) :: gv F l
def H8(n:Option Nat)(z:List D)(parts:List (Nat × D))(K:D->Hp->Prop)(h:Hp):Prop:=
 match n with|some n=>GA (Vh (Lc n) z parts) K h|none=>False
def Ml(z:Option (List D))(pl:Option (List (Nat × Nat)))(arr:Option (Nat × O))(n:O->Option Nat)(parts:List (Nat × D))(K:D->Hp->Prop)(h:Hp):Prop:=
 match z,pl,arr with
 | some z,G pl,U=>GA (Vh (nth pl) z parts) K h
 | some z,U,G (_,e)=>H8 (n e) z parts K h
 | _,_,_=>False
def Qr:Nat->List D->List D
 | 0,_=>[]
 | n+1,z=>z++Qr n z
def gx:Nat->List (Nat × D)->Option (List D)
 | _,[]=>G []
 | k,(i,v) :: l=>if i=k/\YE v=true then (gx (k+1) l).map (v :: ·) else U
def mq(e:O)(len:Nat)(x:Option (List D))(K:D->Hp->Prop)(h:Hp):Prop:=
 match x with|some l=>K (Z (G ⟨h.size,0,U⟩) len len) (h.push (Y l.toArray e))|none=>False
def H9(n len:Nat)(z:List D)(parts:List (Nat × D)):Option (List D):=
 if n=1/\(M parts)=len then gx 0 parts else Vh (Lc n) (Qr len z) parts
def OZ(e:O)(n:Option Nat)(z:Option (List D))(len:Nat)(parts:List (Nat × D))(K:D->Hp->Prop)(h:Hp):Prop:=
 match n,z with
 | some n,G z=>if (M z)=n/\len*n<=16777216 then mq e len (H9 n len z parts) K h else False
 | _,_=>False
def Ld(e:Option O)(n:O->Option Nat)(z:O->Option (List D))(len:Nat)(parts:List (Nat × D))(K:D->Hp->Prop)(h:Hp):Prop:=
 match e with
 | some e=>OZ e (n e) (z e) len parts K h
 | none=>False
def IE(a:Option Bool)(n:Option Nat)(cs:List D)(o:Nat)(K:D->Hp->Prop)(h:Hp):Prop:=
 match a,n with
 | some true,G n=>K (a0 ((cs.drop o).take n).toArray) h
 | some false,_=>HF (nth cs o) K h
 | _,_=>False
def vU(f:Option (Nat × O))(a:O->Option Bool)(n:O->Option Nat)(x:D)(K:D->Hp->Prop)(h:Hp):Prop:=
 match f,x with
 | some (o,t),a0 cs=>IE (a t) (n t) cs.toList o K h
 | _,_=>False
def mw(m:Option Nat)(a:Option Bool)(len:Nat)(cs:List D)(i:Int)(K:D->Hp->Prop)(h:Hp):Prop:=
 match m with|some m=>if 0<=i/\i<(len:Int) then IE a (G m) cs (i.toNat*m) K h else False|none=>False
def pH(arr:Option (Nat × O))(str:Bool)(a:O->Option Bool)(n:O->Option Nat)(x i:D)(K:D->Hp->Prop)(h:Hp):Prop:=
 match i with
 | .int _ i=>(match arr,str,x with
  | some (len,e),false,a0 cs=>mw (n e) (a e) len cs.toList i K h
  | none,true,.string s=>if 0<=i/\i<(s.size:Int) then K (.int .u8 ((s.data.toList.getD i.toNat 0).toNat:Nat)) h else False
  | _,_,_=>False)
 | _=>False
def sb(x:Option D)(d y:Nat):Option Nat:=
 match x with
 | none=>G d
 | some (.int _ i)=>if 0<=i/\i<=(y:Int) then G i.toNat else U
 | _=>U
def my(F:Env):Option a6->Option D
 | none=>U
 | some x=>G (ev F x)
def PG(n:Option Nat)(a:Option Addr)(len cap:Nat)(lo hi:Option D)(K:D->Hp->Prop)(h:Hp):Prop:=
 match n,sb hi len cap with
 | some n,G b=>(match sb lo 0 b with
  | some l=>K (Z (if cap=l then a else a.map (·.add (l*n))) (b-l) (cap-l)) h
  | none=>False)
 | _,_=>False
def EP(arr:Option (Nat × O))(sl:Option O)(str:Bool)(n:O->Option Nat)(x:D)(lo hi mx:Option D)(K:D->Hp->Prop)(h:Hp):Prop:=
 match mx,x,arr,sl,str with
 | some mv,Z a len cap,U,G e,_=>(match hi,sb (G mv) 0 cap with
  | some hv,G m=>PG (n e) a len m lo (G hv) K h
  | _,_=>False)
 | none,Z a len cap,U,G e,_=>PG (n e) a len cap lo hi K h
 | none,J (G a),G (len,e),U,_=>PG (n e) (G a) len len lo hi K h
 | none,.string s,U,U,true=>(match sb hi s.size s.size with
  | some b=>(match sb lo 0 b with|some l=>K (.string (s.extract l b)) h|none=>False)
  | none=>False)
 | _,_,_,_,_=>False
def Zct(e:O)(n:Option Nat)(by':Option Nat)(z:Option (List D))(l c:Int)(K:D->Hp->Prop)(h:Hp):Prop:=
 match n,by',z with
 | some n,G bytes,G z=>if (M z)=n/\0<=l/\l<=c/\c<=9223372036854775807/\(bytes:Int)*c<=281474976710656 then K (Z (G ⟨h.size,0,U⟩) l.toNat c.toNat) (h.push (Y (Qr c.toNat z).toArray e)) else False
 | _,_,_=>False
def vMk(e:Option O)(n by':O->Option Nat)(z:O->Option (List D))(l c:D)(K:D->Hp->Prop)(h:Hp):Prop:=
 match e,l,c with
 | some e,.int _ l,.int _ c=>Zct e (n e) (by' e) (z e) l c K h
 | _,_,_=>False
def Sf(op:Op)(ty:O)(K:D->Hp->Prop)(F:Env)(h:Hp):Prop:=
 match op with
 | .move x|.assign x=>K (ev F x) h
 | .pick c a b=>DC (ev F c) (ev F a) (ev F b) K h
 | .alloc e=>vS (tz P e) e K h
 | .box e x=>vS (G (cl (ev F x))) e K h
 | .load t a=>La (ta P t) (tn P t) (ev F a) K h
 | .store t a x=>VB (tn P t) (ev F a) (ev F x) K h
 | .fieldAddr t x i=>Mk (tf P t i) (ev F x) K h
 | .indexAddr t x i=>vIx (Xx P t) (QY P t) (tn P) (ev F x) (ev F i) K h
 | .nilCheck x=>gu (ev F x) K h
 | .binOp op t x y _=>XP P op t x y (ev F x) (ev F y) K h
 | .unOp op _ x=>vUn P op (ev F x) K h
 | .convert s d x=>Lb P s d (ev F x) K h
 | .extract x i=>Vg (ev F x) i K h
 | .makeFunc fn first captured=>K (.func fn (pG F first.toList).toArray (pG F captured.toList).toArray) h
 | .call ⟨.value f,args,_⟩=>GB P T (ev F f) (pG F args.toList) K h
 | .call ⟨.builtin b,args,ts⟩=>PZ P T b ts ty (args.map fun|.const _=>true|_=>false) (pG F args.toList) K h
 | .build t parts=>Ml (tz P t) (NS P t) (Xx P t) (tn P) (gv F parts.toList) K h
 | .buildSlice t len parts=>Ld (QY P t) (tn P) (tz P) len (gv F parts.toList) K h
 | .field t x i=>vU (tfl P t i) (ta P) (tn P) (ev F x) K h
 | .index t x i=>pH (Xx P t) (Vf P t) (ta P) (tn P) (ev F x) (ev F i) K h
 | .slice t x lo hi mx=>EP (Xx P t) (QY P t) (Vf P t) (tn P) (ev F x) (my F lo) (my F hi) (my F mx) K h
 | .makeSlice t l c=>vMk (QY P t) (tn P) (tb P) (tz P) (ev F l) (ev F c) K h
 | op=>EN P T ⟨U,op,ty, "", #[],U⟩ K F h
end
section
variable {P:al} {T:am} {K:D->Hp->Prop} {F:Env} {h:Hp} {ty:O}
theorem gy{Q:al->Hp->Prop}:hw P program Q h=Q P h:=rfl
theorem ZO{Q:α->Hp->Prop}(a:α):hw P (pure a) Q h=Q a h:=rfl
theorem X8{d:TypeInfo}(hd:P.info? t=G d){Q:TypeInfo->Hp->Prop}:hw P (typeInfo t) Q h=Q d h:=by
 simp only[typeInfo];rw[Zm];simp only[program,hw];rw[hd];rfl
theorem ZH{d:TypeDesc}(hd:P.underlying t=G d){Q:TypeDesc->Hp->Prop}:hw P (underlying t) Q h=Q d h:=by
 simp only[underlying];rw[Zm];simp only[program,hw];rw[hd];rfl
theorem run_sizeOf(hn:tn P t=G n){Q:Nat->Hp->Prop}:hw P (sizeOf t) Q h=Q n h:=by
 unfold tn at hn
 cases hi:P.info? t with
 | none=>rw[hi]at hn;cases hn
 | some i=>
  rw[hi]at hn;simp only[a1,Option.some.injEq]at hn;subst hn;unfold sizeOf;rw[Zm,X8 hi];rfl
theorem Td{b:Bool}(hb:ta P t=G b){Q:Bool->Hp->Prop}:hw P (isAgg t) Q h=Q b h:=by
 unfold ta at hb
 cases hi:P.underlying t with
 | none=>rw[hi]at hb;cases hb
 | some d=>
  rw[hi]at hb;simp only[a1,Option.some.injEq]at hb;subst hb;unfold isAgg;rw[Zm,ZH hi]
  cases d<;>rfl
theorem XR(b o n:Nat):Addr.add ⟨b,o,U⟩ n=⟨b,o+n,U⟩:=by
 unfold Addr.add;split
 .rename_i h;subst h;rfl
 .rfl
theorem O0(a:Addr)(n:Nat)(ha:a.spot=U):a.add n=⟨a.block,a.off+n,U⟩:=by
 obtain⟨b,o,s⟩:=a;simp only at ha;subst ha;exact XR b o n
theorem run_loadCells(a:Addr)(c:List D){Q:Array D->Hp->Prop}:∀(n i:Nat) (acc:Array D),
  (∀j,j<n->hc h (a.add (i+j))=G (c.getD j undef))->n=(M c)->Q (acc++c.toArray) h->hw P (loadCellsFrom a i n acc) Q h:=by
 induction c with
 | nil=>intro n i acc _ hn H;subst hn;simpa [loadCellsFrom,pure,hw] using H
 | cons v c ih=>
  intro n i acc hj hn H;subst hn;show hw P (load (a.add i) >>= fun v=>loadCellsFrom a (i+1) (M c) (acc.push v)) Q h;rw[Zm];refine⟨v,by simpa using hj 0 IQ,?_⟩;refine ih _ (i+1) _ (fun j gz=>?_) rfl ?_
  .have:=hj (j+1) VL;have e:i+(j+1)=i+1+j:=pA;rw[e]at this
   simpa using this
  .simpa using H
theorem gC(H:La (ta P t) (tn P t) v K h):hw P (Instr.loadAt t v) K h:=by
 unfold La at H;split at H
 .rename_i a;unfold Instr.loadAt;rw[Zm];show hw P (loadVar t a) K h;unfold loadVar;rw[Zm];split at H
  .rename_i hs;rw[Td hs];unfold HF at H;split at H
   .rename_i v hv;exact⟨v,hv,H⟩
   .exact H.elim
  .rename_i n hs hn;rw[Td hs];simp only[if_true];rw[Zm,run_sizeOf hn,Zm];unfold GA at H;split at H
   .rename_i l hl;unfold rd at hl;split at hl
    .rename_i c e fr hb;split at hl
     .rename_i Le;obtain⟨h1,h2⟩:=Le;simp only[Option.some.injEq]at hl;subst hl;have hlen:((c.toList.drop a.off).take n).length=n:=VL;refine run_loadCells a _ n 0 #[] (fun j hj=>?_) hlen.symm (by simpa [ZO] using H);rw[O0 a _ h1];unfold hc;rw[hb];simp only[bS,a4,if_false];rw[b0,List.getElem?_take,if_pos hj,List.getElem?_drop];have e:a.off+(0+j)=a.off+j:=pA;rw[e];simp;rw[bg pA];rfl
     .cases hl
    .cases hl
   .exact H.elim
  .exact H.elim
 .exact H.elim
theorem run_store{Q:Unit->Hp->Prop}:hw P (store a v) Q h=(YE v=true/\(∃u,hc h a=G u)/\vN h a=false/\Q () (pB h a v)):=rfl
theorem Zcv{c:Array D}{fr:Nat × Nat}(hb:h[a.block]? = G (Y c e fr))(hs:a.spot=U)(v:D):
  pB h a v=h.setIfInBounds a.block (Y (c.setIfInBounds a.off v) e fr):=by
 obtain⟨ZT,gD⟩:=a5.1 hb;unfold pB;apply bc;intro i;rw[Array.getElem?_modify,aN];by_cases hi:a.block=i
 .subst hi;simp[gD,hs,ZT]
 .simp[hi]
theorem Rb(l:List D)(n:Nat)(v:D)(vs:List D):Xd l n (v :: vs)=Xd (l.set n v) (n+1) vs:=by
 induction l generalizing n with
 | nil=>cases vs<;>simp[Xd]
 | cons x l ih=>
  cases n with
  | zero=>
   simp only[Xd,cq]
   cases vs with
   | nil=>simp[Xd]
   | cons u us=>simp[Xd]
  | succ n=>
   simp only[Xd,cr];rw[ih]
   cases vs with
   | nil=>simp[Xd]
   | cons u us=>simp[Xd]
theorem YZ{lo hi:Nat}{Q:Unit->Hp->Prop}(hs:a.spot=U)(Zrj:hi<=lo):∀(vs:List D) (i:Nat) (h:Hp) (c:Array D),
  h[a.block]? = G (Y c e (lo,hi))->a.off+i+(M vs)<=c.size->vs.all YE=true ->
  Q () (h.setIfInBounds a.block (Y (Xd c.toList (a.off+i) vs).toArray e (lo,hi)))->hw P (storeCells a vs i) Q h
 | [],i,h,c,hb,_,_,H=>by
  have e:h.setIfInBounds a.block (Y (Xd c.toList (a.off+i) []).toArray e (lo,hi))=h:=by
   have ZT:=(a5.1 hb).1;apply bc;intro j;rw[aN];by_cases hj:a.block=j
   .subst hj;rw[if_pos rfl,if_pos ZT,hb];simp[Xd]
   .simp[hj]
  rw[e]at H;exact H
 | v :: vs,i,h,c,hb,hlen,X3,H=>by
  simp only[bw,aO]at X3;simp only[bf]at hlen;show hw P (store (a.add i) v >>= fun _=>storeCells a vs (i+1)) Q h;rw[Zm,run_store,O0 a i hs];have ZT:a.block<h.size:=(a5.1 hb).1;refine⟨X3.1,?_,?_,?_⟩
  .unfold hc;simp only[hb];refine⟨c[a.off+i]'pA,?_⟩;simp only[bS,a4,if_false];rw[bg pA]
  .unfold vN;simp only[hb];simp;omega
  .have Qi:h[({ block:=a.block,off:=a.off+i,spot:=U }:Addr).block]? = G (Y c e (lo,hi)):=hb;rw[Zcv Qi rfl];have Ga:(h.setIfInBounds a.block (Y (c.setIfInBounds (a.off+i) v) e (lo,hi)))[a.block]? = G (Y (c.setIfInBounds (a.off+i) v) e (lo,hi)):=by
    simp[ZT]
   refine YZ hs Zrj vs (i+1) _ _ Ga VL X3.2 ?_;have e2:(h.setIfInBounds a.block (Y (c.setIfInBounds (a.off+i) v) e (lo,hi))).setIfInBounds a.block
     (Y (Xd (c.setIfInBounds (a.off+i) v).toList (a.off+(i+1)) vs).toArray e (lo,hi)) =
     h.setIfInBounds a.block (Y (Xd c.toList (a.off+i) (v :: vs)).toArray e (lo,hi)):=by
    rw[Rb,bd];rw[Array.setIfInBounds_setIfInBounds,cp]
   rw[e2];exact H
theorem A7{p:D}(H:VB (tn P t) p v K h):hw P (Instr.storeAt t p v) (fun _ h=>K undef h) h:=by
 unfold VB at H;split at H
 .rename_i a n hn;unfold Instr.storeAt;rw[Zm];show hw P (storeVar t a v) _ h;unfold storeVar;split at H
  .rename_i hlen;have hsz:v.cells.size=n:=by rw[<-M7,hlen];simp
   rw[Zm,run_sizeOf hn];simp only[hsz,ne_eq,not_true_eq_false,if_false];show hw P (storeCells a v.cells.toList) _ h;split at H
   .rename_i cs;unfold mo at H;split at H
    .rename_i h' hh;unfold wr at hh;split at hh
     .rename_i c e lo hi hb;split at hh
      .rename_i Zgn;obtain⟨h1,h2,h3,h4⟩:=Zgn;simp only[Option.some.injEq]at hh;subst hh;exact YZ h1 h3 cs.toList 0 h c hb h2 h4 H
      .cases hh
     .cases hh
    .exact H.elim
   .rename_i hna;have Zgo:v.cells.toList=[v]:=by cases v<;>first|rfl|exact (hna _ rfl).elim
    rw[Zgo];unfold mo at H;split at H
    .rename_i h' hh;unfold QX at hh;split at hh
     .rename_i c e lo hi hb;split at hh
      .rename_i Zgn;obtain⟨h1,h2,h3,h4⟩:=Zgn;simp only[Option.some.injEq]at hh;subst hh;refine YZ h1 h3 [v] 0 h c hb VL (by simpa using h4) ?_;have e1:(Xd c.toList (a.off+0) [v]).toArray=c.setIfInBounds a.off v:=by
        rw[Rb,cv];apply b6.1;rw[bd]
        cases h9:(c.toList.set a.off v)<;>simp[Xd]
       rw[e1];exact H
      .cases hh
     .cases hh
    .exact H.elim
  .exact H.elim
 .exact H.elim
theorem A9{p:D}(H:Mk (tf P t i) p K h):hw P (Instr.fieldAt t p i) K h:=by
 unfold Mk at H;split at H
 .rename_i o a hf;unfold tf at hf;split at hf
  .rename_i fs hu;unfold Instr.fieldAt;rw[Zm,ZH hu]
   cases ab:fs[i]? with
   | none=>rw[ab]at hf;cases hf
   | some f=>
    rw[ab]at hf;simp only[aw]at hf;split at hf
    .rename_i m hm;simp only[Option.some.injEq]at hf;subst hf;simp only[ab];simp only[Instr.sureAddr,fieldPlace,Zm,ZO,run_sizeOf hm,if_neg (Nat.succ_ne_zero m)];exact H
    .cases hf
  .cases hf
 .exact H.elim
theorem vV{p i:D}(H:vIx (Xx P t) (QY P t) (tn P) p i K h):hw P (Instr.indexAt t p i) K h:=by
 unfold vIx at H;split at H
 .rename_i k i;split at H
  .rename_i len e a ha hs;split at H
   .rename_i n hn;unfold Xx at ha;split at ha
    .rename_i m e' hu;simp only[Option.some.injEq,Prod.mk.injEq]at ha;obtain⟨rfl,rfl⟩:=ha;split at H
     .rename_i hb;simp only[Instr.indexAt,asIntOf,Instr.sureAddr,Zm,ZO,ZH hu,if_pos hb,run_sizeOf hn];exact H
     .exact H.elim
    .cases ha
   .exact H.elim
  .rename_i e a len cap ha hs;split at H
   .rename_i n hn;unfold QY at hs;split at hs
    .rename_i e' hu;simp only[Option.some.injEq]at hs;subst hs;split at H
     .rename_i hb;simp only[Instr.indexAt,asIntOf,Instr.sureAddr,Zm,ZO,ZH hu,if_pos hb,run_sizeOf hn];exact H
     .exact H.elim
    .cases hs
   .exact H.elim
  .exact H.elim
 .exact H.elim
theorem EQ(H:Vg v i K h):hw P (Instr.extract v i) K h:=by
 unfold Vg at H;split at H
 .rename_i vs;unfold HF at H;split at H
  .rename_i v hv;simp only[Instr.extract,hv];exact H
  .exact H.elim
 .exact H.elim
theorem gE{f:D}{c:Call}{args:List D}(hc:c.callee=.value x)(hf:ev F x=f)(ha:(c.args.map (ev F)).toList=args)(H:GB P T f args K h):
  hw P (do let d <-resolve (ev F) c ty;invoke d.target d.args) (JA P T K) h:=by
 unfold GB at H;split at H
 .rename_i f first captured;have e:first++c.args.map (ev F)++captured=(first.toList++args++captured.toList).toArray:=by rw[<-ha];simp
  by_cases hg:goes P f=true
  case neg=>
   rw[if_neg hg]at H;simp only[resolve,hc,hf,Deferred.ofValue,Zm,ZO,invoke];rw[e];exact H
  rw[if_pos hg]at H;unfold goes at hg;split at hg
  .rename_i fn vW;simp only[aO,Bool.not_eq_true']at hg;have Zke:fn.body.isNone=false:=by
    cases hb:fn.body with
    | none=>rw[hb]at hg;simp at hg
    | some _=>rfl
   simp only[resolve,hc,hf,Deferred.ofValue,Zm,ZO,invoke,callFunc,gy,vW,hg.1,a4,if_false,Zke];rw[e];exact H
  .cases hg
 .exact H.elim
theorem Gb{z:List D}(hz:tz P t=G z):∃v,v.cells=z.toArray/\∀{Q:D->Hp->Prop} {h:Hp},hw P (zeroValue t) Q h=Q v h:=by
 unfold tz at hz
 cases hi:P.info? t with
 | none=>rw[hi]at hz;cases hz
 | some i=>
  rw[hi]at hz
  cases Gc:i.zero with
  | none=>rw[aw,Gc]at hz;cases hz
  | some v=>
   rw[aw,Gc]at hz;simp only[a1,Option.some.injEq]at hz;refine⟨v,by rw[<-hz,ck],fun {Q h}=>?_⟩;unfold zeroValue;rw[Zm,X8 hi];simp only[Gc];rfl
theorem DD(off:Nat):∀(vs:List D) (k:Nat) (cells:Array D),
  ((vs.zipIdx k).foldl (fun (cs:Array D) (x:D × Nat)=>cs.setIfInBounds (off+x.2) x.1) cells).toList=Xd cells.toList (off+k) vs
 | [],k,cells=>by cases h:cells.toList<;>simp[Xd,h]
 | v :: vs,k,cells=>by
  rw[List.zipIdx_cons,List.foldl_cons,DD off vs (k+1),Rb,bd,cp]
theorem Gd:∀(parts:List (Nat × D)) (cs:List D) (vX:List D),Vh place cs parts=G vX->Instr.fill place cs.toArray parts=G vX.toArray
 | [],cs,vX,h=>by simp only[Vh,Option.some.injEq]at h;subst h;rfl
 | (i,v) :: l,cs,vX,h=>by
  unfold Vh at h;unfold Instr.fill
  cases hp:place i with
  | none=>rw[hp]at h;cases h
  | some os=>
   obtain⟨o,s⟩:=os;rw[hp]at h;simp only at h ⊢;split at h
   .rename_i hc;have hsz:v.cells.size=s:=by rw[<-M7];simpa using hc.1
    have Le:¬((decide (v.cells.size≠s)||decide (o+v.cells.size>cs.toArray.size))=true):=by
     rw[hsz];simp;omega
    rw[if_neg Le];have e:(v.cells.zipIdx.foldl (fun (cs:Array D) (x:D × Nat)=>cs.setIfInBounds (o+x.2) x.1) cs.toArray)=(Xd cs o (cl v)).toArray:=by
     apply b6.1;have:=DD o (cl v) 0 cs.toArray;rw[<-M7,c2,<-Array.foldl_toList];have e3:(cl v).mapIdx (fun i a=>(a,i))=(cl v).zipIdx 0:=by
      apply List.ext_getElem?;intro i;simp[List.getElem?_zipIdx]
     simpa [c2,e3] using this
    have key:=Gd l _ _ h;rw[<-e]at key;exact key
   .cases h
theorem YU(l:List α)(n:Nat):nth l n=l[n]?:=by
 induction l generalizing n with
 | nil=>simp[nth]
 | cons x l ih=>cases n<;>simp[nth,ih]
theorem mz(F:Env)(l:List (Nat × a6)):gv F l=l.map fun x=>(x.1,ev F x.2):=by
 induction l with
 | nil=>rfl
 | cons x l ih=>obtain⟨i,x⟩:=x;simp[gv,ih]
theorem run_places:∀(l:List Field) (Q:List (Nat × Nat)->Hp->Prop) (pl:List (Nat × Nat)),l.mapM (fun f:Field=>(tn P f.type).map fun n=>(f.offset,n))=G pl ->
  Q pl h->hw P (l.mapM fun f:Field=>do pure (f.offset,<-sizeOf f.type)) Q h
 | [],Q,pl,hp,H=>by
  simp only[cZ,pure,Option.some.injEq]at hp;subst hp;exact H
 | f :: l,Q,pl,hp,H=>by
  rw[bR]at hp
  cases hn:tn P f.type with
  | none=>rw[hn]at hp;cases hp
  | some n=>
   rw[hn]at hp
   cases hl:l.mapM (fun f:Field=>(tn P f.type).map fun n=>(f.offset,n)) with
   | none=>simp[hl]at hp
   | some pl'=>
    simp[hl]at hp;subst hp;rw[bR,Zm,Zm,run_sizeOf hn];show hw P (_ >>= _) Q h;rw[Zm];exact run_places l _ pl' hl H
theorem ad{parts:Array (Nat × a6)}(H:Ml (tz P t) (NS P t) (Xx P t) (tn P) (gv F parts.toList) K h):hw P (Instr.build t (parts.map fun (i,x)=>(i,ev F x))) K h:=by
 have e1:(parts.map fun (i,x)=>(i,ev F x)).toList=gv F parts.toList:=by rw[mz,bp]
 unfold Instr.build;rw[e1];unfold Ml at H;split at H
 .rename_i z pl hz MV _;obtain⟨v,hv,Zgp⟩:=Gb hz;rw[Zm,Zgp,Zm,hv];unfold NS at MV;split at MV
  .rename_i fs hu;rw[ZH hu];simp only;rw[Zm,<-ck (xs:=fs),cu,map_eq_pure_bind,Zm];refine run_places fs.toList _ pl MV ?_;unfold GA at H;split at H
   .rename_i cs XL;have e2:(fun i=>pl.toArray[i]?)=nth pl:=by funext i;rw[YU];simp
    have:=Gd _ _ _ XL;rw[<-e2]at this;simp only[ZO,this];exact H
   .exact H.elim
  .cases MV
 .rename_i z n e hz _ ha;obtain⟨v,hv,Zgp⟩:=Gb hz;rw[Zm,Zgp,Zm,hv];unfold Xx at ha;split at ha
  .rename_i n' e' hu;simp only[Option.some.injEq,Prod.mk.injEq]at ha;obtain⟨rfl,rfl⟩:=ha;rw[ZH hu];simp only;unfold H8 at H;split at H
   .rename_i m hm;rw[Zm,run_sizeOf hm];unfold GA at H;split at H
    .rename_i cs XL;have:=Gd _ _ _ XL;have e2:(fun i=>G (i*m,m))=Lc m:=rfl;rw[e2];simp only[this];exact H
    .exact H.elim
   .exact H.elim
  .cases ha
 .exact H.elim
theorem mA(z:List D)(hz:z≠[]):∀(len:Nat),(b2 (len*(M z))).map (fun j=>z.toArray[j%z.toArray.size]!)=(Qr len z).toArray:=by
 have GC:0<(M z):=bB.2 hz;have hlen:∀len,(Qr len z).length=len*(M z):=by
  intro len
  induction len with
  | zero=>simp[Qr]
  | succ n ih=>simp[Qr,ih,bl,cw]
 have gD:∀len j,j<len*(M z)->(Qr len z)[j]? = z[j%(M z)]?:=by
  intro len
  induction len with
  | zero=>intro j hj;simp at hj
  | succ n ih=>
   intro j hj;simp only[Qr];by_cases gz:j<(M z)
   .rw[b1 gz,a9 gz]
   .rw[List.getElem?_append_right pA,ih (j-(M z)) (by rw[bl]at hj;omega)];rw[Nat.mod_eq_sub_mod (by omega:j ≥ (M z))]
 intro len;apply bc;intro j;by_cases hj:j<len*(M z)
 .have Zrk:j%(M z)<(M z):=Nat.mod_lt _ GC;simp[hj,gD len j hj,Zrk]
 .have h2:(Qr len z)[j]? = U:=List.getElem?_eq_none (by rw[hlen];omega);simp[hj,h2]
theorem Of(z:List D):∀n,(Qr n z).length=n*(M z):=by
 intro len
 induction len with
 | zero=>simp[Qr]
 | succ n ih=>simp[Qr,ih,bl,cw]
theorem DF:∀(parts:List (Nat × D)) (pre vs rest:List D),gx (M pre) parts=G vs->(M rest)=(M parts)->Vh (Lc 1) (pre++rest) parts=G (pre++vs)
 | [],pre,vs,rest,h,hl=>by
  simp only[gx,Option.some.injEq]at h;subst h;have:rest=[]:=a2 (by simpa using hl);simp[Vh,this]
 | (i,v) :: l,pre,vs,rest,h,hl=>by
  unfold gx at h;split at h
  .rename_i hc;obtain⟨rfl,hv⟩:=hc
   cases hs:gx ((M pre)+1) l with
   | none=>rw[hs]at h;cases h
   | some us=>
    rw[hs]at h;simp only[a1,Option.some.injEq]at h;subst h
    cases rest with
    | nil=>simp at hl
    | cons r rest=>
     have J9:cl v=[v]:=by cases v<;>first|rfl|(simp[YE]at hv)
     have e1:Xd (pre++r :: rest) (M pre) [v]=(pre++[v])++rest:=by
      rw[Rb];simp[Xd]
     have ih:=DF l (pre++[v]) us rest (by simpa using hs) (by simpa using hl);simp only[Vh,Lc,J9,Nat.mul_one,bf,cS,bk];rw[if_pos IQ,e1,ih];simp
  .cases h
theorem ER{parts:Array (Nat × a6)}(H:Ld (QY P t) (tn P) (tz P) len (gv F parts.toList) K h):hw P (Instr.buildSlice t len (parts.map fun (i,x)=>(i,ev F x))) K h:=by
 have e1:(parts.map fun (i,x)=>(i,ev F x)).toList=gv F parts.toList:=by rw[mz,bp]
 unfold Instr.buildSlice;rw[e1];unfold Ld at H;split at H
 .rename_i e he;unfold QY at he;split at he
  .rename_i e' hu;simp only[Option.some.injEq]at he;subst he;unfold OZ at H;split at H
   .rename_i n z hn hz;split at H
    .rename_i hc;obtain⟨fS,hle⟩:=hc;unfold mq at H;split at H
     .rename_i l hl;have Zkf:Vh (Lc n) (Qr len z) (gv F parts.toList)=G l:=by
       unfold H9 at hl;split at hl
       .rename_i hc;obtain⟨rfl,MV⟩:=hc;have:=DF (gv F parts.toList) [] l (Qr len z) hl (by rw[Of,fS,MV,Nat.mul_one])
        simpa using this
       .exact hl
      rw[Zm,ZH hu];simp only;rw[Zm,run_sizeOf hn,if_neg pA];have fin:∀z':Array D,(b2 (len*n)).map (fun j=>z'[j%z'.size]!)=(Qr len z).toArray->hw P (match Instr.fill (fun i=>G (i*n,n)) ((b2 (len*n)).map (fun j=>z'[j%z'.size]!)) (gv F parts.toList) with
        | some cells=>do
         let a <-newRow e' cells
         pure (Value.slice (G a) len len)
        | x=>stuck "buildSlice: a part of the wrong size") K h:=by
       intro z' ae;have:=Gd _ _ _ Zkf;have e2:(fun i=>G (i*n,n))=Lc n:=rfl;rw[e2,ae];simp only[this];exact H
      split
      .rename_i h0;refine fin #[] ?_;have:(Qr len z).length=0:=by rw[Of,fS,h0]
       rw[a2 this,h0];simp
      .rename_i h0;obtain⟨v,hv,hr⟩:=Gb hz;rw[Zm,hr];refine fin v.cells ?_;have:z≠[]:=by intro e;subst e;simp at fS;subst fS;simp at h0
       rw[hv,<-fS];exact mA z this len
     .exact H.elim
    .exact H.elim
   .exact H.elim
  .cases he
 .exact H.elim
theorem GD{cs:Array D}(H:IE (ta P t) (tn P t) cs.toList o K h):hw P (part t cs o) K h:=by
 unfold IE at H;unfold part;rw[Zm];split at H
 .rename_i n ha hn;rw[Td ha,if_pos rfl,Zm,run_sizeOf hn];have e:(cs.extract o (o+n))=((cs.toList.drop o).take n).toArray:=by
   apply b6.1;simp[List.extract_eq_take_drop]
  rw[e];exact H
 .rename_i ha;rw[Td ha,if_neg IQ];unfold HF at H;split at H
  .rename_i v hv;rw[YU]at hv;have:cs[o]? = G v:=by rw[<-cf];exact hv
   simp only[this];exact H
  .exact H.elim
 .exact H.elim
theorem pI{x:D}(H:vU (tfl P t i) (ta P) (tn P) x K h):hw P (Instr.field t x i) K h:=by
 unfold vU at H;split at H
 .rename_i o ft cs hf;unfold tfl at hf;split at hf
  .rename_i fs hu;unfold Instr.field;rw[Zm,ZH hu]
   cases ab:fs[i]? with
   | none=>rw[ab]at hf;cases hf
   | some f=>
    rw[ab]at hf;simp only[a1,Option.some.injEq,Prod.mk.injEq]at hf;obtain⟨rfl,rfl⟩:=hf;simp only[ab];exact GD H
  .cases hf
 .exact H.elim
theorem pJ{x i:D}(H:pH (Xx P t) (Vf P t) (ta P) (tn P) x i K h):hw P (Instr.index t x i) K h:=by
 unfold pH at H;split at H
 .rename_i k i;split at H
  .rename_i len e cs ha _;unfold Xx at ha;split at ha
   .rename_i n' e' hu;simp only[Option.some.injEq,Prod.mk.injEq]at ha;obtain⟨rfl,rfl⟩:=ha;unfold mw at H;split at H
    .rename_i m hm;split at H
     .rename_i hc;unfold Instr.index;simp only[asIntOf,Zm,ZO,ZH hu,if_pos hc,run_sizeOf hm];exact GD (by rw[hm];exact H)
     .exact H.elim
    .exact H.elim
   .cases ha
  .rename_i s _ hs;unfold Vf at hs;split at hs
   .rename_i hu;split at H
    .rename_i hc;unfold Instr.index;have ZT:i.toNat<s.size:=pA;have e:s[i.toNat]? = G s[i.toNat]:=by exact getElem?_pos s i.toNat ZT
     have e2:s.data.toList.getD i.toNat 0=s[i.toNat]:=by
      have HG:i.toNat<(M s.data.toList):=by simpa using ZT
      rw[b0,a7 HG,Option.getD_some];rfl
     simp only[asIntOf,Zm,ZO,ZH hu,if_pos hc.1,e];rw[e2]at H;exact H
    .exact H.elim
   .cases hs
  .exact H.elim
 .exact H.elim
theorem GF{x:Option D}{y:Nat}{c:BoundsCode}(hx:x=G v)(hs:sb x 0 y=G n){Q:Nat->Hp->Prop}:hw P (Instr.sliceBound v y c) Q h=Q n h:=by
 subst hx;unfold sb at hs;split at hs
 .rename_i he;cases he
 .rename_i k i he;simp only[Option.some.injEq]at he;subst he;split at hs
  .rename_i hc;simp only[Option.some.injEq]at hs;subst hs;unfold Instr.sliceBound;simp only[asIntOf,Zm,ZO,if_pos hc]
  .cases hs
 .cases hs
theorem Mm{isS:Bool}{l:Nat}{hi:Option D}(hb:sb hi len cap=G b)(hl:sb lo 0 b=G l){Q:Nat × Nat × Nat->Hp->Prop}(H:Q (l,b,cap) h):hw P (Instr.sliceBounds isS len cap lo hi U) Q h:=by
 have h2:∀{c:BoundsCode},hw P (match lo with
   | some v=>do
    let l <-Instr.sliceBound v b c
    pure (l,b,cap)
   | none=>do
    let l <-pure 0
    pure (l,b,cap)) Q h:=by
  intro c
  cases lo with
  | none=>simp only[sb,Option.some.injEq]at hl;subst hl;exact H
  | some v=>
   simp only;rw[Zm,GF rfl hl];exact H
 unfold Instr.sliceBounds;rw[Zm];show hw P (pure cap) _ h;rw[ZO]
 cases hi with
 | none=>
  simp only[sb,Option.some.injEq]at hb;subst hb;exact h2
 | some v=>
  have Qi:sb (G v) 0 cap=G b:=by unfold sb at hb ⊢;cases v<;>simp at hb ⊢<;>exact hb
  simp only;rw[Zm,GF rfl Qi];exact h2
theorem af{isS:Bool}{l:Nat}{hv mv:D}(hm:sb (G mv) 0 cap=G m)(hb:sb (G hv) len m=G b)(hl:sb lo 0 b=G l){Q:Nat × Nat × Nat->Hp->Prop}(H:Q (l,b,m) h):hw P (Instr.sliceBounds isS len cap lo (G hv) (G mv)) Q h:=by
 have Qi:sb (G hv) 0 m=G b:=by unfold sb at hb ⊢;cases hv<;>simp at hb ⊢<;>exact hb
 unfold Instr.sliceBounds;rw[Zm];show hw P (Instr.sliceBound mv cap _) _ h;rw[GF rfl hm,Zm,GF rfl Qi]
 cases lo with
 | none=>simp only[sb,Option.some.injEq]at hl;subst hl;exact H
 | some v=>
  show hw P (Instr.sliceBound v b _ >>= _) _ h;rw[Zm,GF rfl hl];exact H
theorem pK{x:D}{lo hi mx:Option a6}(H:EP (Xx P t) (QY P t) (Vf P t) (tn P) x (my F lo) (my F hi) (my F mx) K h):hw P (Instr.sliceAt t x (lo.map (ev F)) (hi.map (ev F)) (mx.map (ev F))) K h:=by
 have e:∀o,my F o=o.map (ev F):=fun o=>by cases o<;>rfl
 rw[e,e,e]at H;generalize lo.map (ev F)=lo at *;generalize hi.map (ev F)=hi at *;generalize mx.map (ev F)=mx at *;unfold EP at H;split at H
 .rename_i mv a len cap e ha hs;unfold QY at hs;split at hs
  .rename_i e' hu;simp only[Option.some.injEq]at hs;subst hs;split at H
   .rename_i hv m hm;unfold PG at H;split at H
    .rename_i n b hn hb;split at H
     .rename_i l hl;unfold Instr.sliceAt;rw[Zm,ZH hu];simp only;unfold Instr.slice;rw[Zm,ZH hu];simp only;rw[Zm];refine af hm hb hl ?_;simp only[Zm,run_sizeOf hn,ZO];exact H
     .exact H.elim
    .exact H.elim
   .exact H.elim
  .cases hs
 .rename_i a len cap e ha hs;unfold QY at hs;split at hs
  .rename_i e' hu;simp only[Option.some.injEq]at hs;subst hs;unfold PG at H;split at H
   .rename_i n b hn hb;split at H
    .rename_i l hl;unfold Instr.sliceAt;rw[Zm,ZH hu];simp only;unfold Instr.slice;rw[Zm,ZH hu];simp only;rw[Zm];refine Mm hb hl ?_;simp only[Zm,run_sizeOf hn,ZO];exact H
    .exact H.elim
   .exact H.elim
  .cases hs
 .rename_i a len e ha hs;unfold Xx at ha;split at ha
  .rename_i n' e' hu;simp only[Option.some.injEq,Prod.mk.injEq]at ha;obtain⟨rfl,rfl⟩:=ha;unfold PG at H;split at H
   .rename_i n b hn hb;split at H
    .rename_i l hl;unfold Instr.sliceAt;rw[Zm,ZH hu];simp only[Instr.sureAddr,Zm,ZO];refine Mm hb hl ?_;simp only[Zm,run_sizeOf hn,ZO];have e3:(if n'=l then G a else (G a).map (·.add (l*n)))=G (if n'=l then a else a.add (l*n)):=by split<;>rfl
     rw[e3]at H;exact H
    .exact H.elim
   .exact H.elim
  .cases ha
 .rename_i s ha hs ag;unfold Vf at ag;split at ag
  .rename_i hu;split at H
   .rename_i b hb;split at H
    .rename_i l hl;unfold Instr.sliceAt;rw[Zm,ZH hu];simp only;unfold Instr.slice;rw[Zm,ZH hu];simp only[bS,a4,if_false];rw[Zm];refine Mm hb hl ?_;exact H
    .exact H.elim
   .exact H.elim
  .cases ag
 .exact H.elim
theorem vY{l c:D}(H:vMk (QY P t) (tn P) (tb P) (tz P) l c K h):hw P (Instr.makeSlice t l c) K h:=by
 unfold vMk at H;split at H
 .rename_i e k l k' c he;unfold QY at he;split at he
  .rename_i e' hu;simp only[Option.some.injEq]at he;subst he;unfold Zct at H;split at H
   .rename_i n bytes z hn O1 hz;split at H
    .rename_i hc;obtain⟨fS,h0,hlc,ZC0,Xf⟩:=hc;obtain⟨i0,PQ⟩:∃i,P.info? e'=G i:=by
      unfold tn at hn
      cases hi:P.info? e' with
      | none=>rw[hi]at hn;cases hn
      | some i=>exact⟨i,rfl⟩
     have Mn:i0.bytes=bytes:=by unfold tb at O1;rw[PQ]at O1;simpa using O1
     have w1:IntKind.i64.wrap l=l:=cn l ⟨pA,pA⟩;have w2:IntKind.i64.wrap c=c:=cn c ⟨pA,pA⟩;have Zgq:¬((bytes:Int)*c>2 ^ 48):=pA;unfold Instr.makeSlice;simp only[Zm,ZH hu,asInt,asIntOf,ZO,X8 PQ,w1,w2,Mn];have Le:¬((decide (c<0)||decide ((bytes:Int)*c>2 ^ 48)||decide (l<0)||decide (l>c))=true):=by
      simp;omega
     rw[if_neg Le];have T3:∀{Q:Unit->Hp->Prop} (b:Nat) (g:Hp),Q () g->hw P (askRoom b) Q g:=fun {Q} b g q=>by
      unfold askRoom;split<;>exact q
     rw[Zm];refine T3 _ _ ?_;rw[Zm,run_sizeOf hn];have fin:∀z':Array D,(b2 (c.toNat*n)).map (fun j=>z'[j%z'.size]!)=(Qr c.toNat z).toArray->hw P (do
       let a <-newRow e' ((b2 (c.toNat*n)).map (fun j=>z'[j%z'.size]!))
       pure (Value.slice (G a) l.toNat c.toNat)) K h:=by
      intro z' ae;rw[ae];exact H
     split
     .rename_i h0;refine fin #[] ?_;have:(Qr c.toNat z).length=0:=by rw[Of,fS,h0]
      rw[a2 this,h0];simp
     .rename_i h0;obtain⟨v,hv,hr⟩:=Gb hz;rw[Zm,hr];refine fin v.cells ?_;have:z≠[]:=by intro e;subst e;simp at fS;subst fS;simp at h0
      rw[hv,<-fS];exact mA z this c.toNat
    .exact H.elim
   .exact H.elim
  .cases he
 .exact H.elim
theorem ah{op:Op}(H:Sf P T op ty K F h):EN P T ⟨U,op,ty, "", #[],U⟩ K F h:=by
 have lift:∀{s:Sem D},hw P s K h->hw P (do pure (Next.value (<-s))) (JA P T K) h:=fun {s} H=>by rw[Zm];exact H
 unfold Sf at H;split at H
 .exact H
 .exact H
 .rename_i c a b;show hw P (do pure (.value (if <-asBool (ev F c) then ev F a else ev F b))) (JA P T K) h;unfold DC at H;split at H
  .rename_i t ht;rw[ht];cases t<;>exact H
  .exact H.elim
 .rename_i e;refine lift ?_;unfold vS tz at H;split at H
  .rename_i l hl
   cases hi:P.info? e with
   | none=>rw[hi]at hl;cases hl
   | some i=>
    rw[hi]at hl
    cases hz:i.zero with
    | none=>rw[aw,hz]at hl;cases hl
    | some z=>
     rw[aw,hz]at hl;simp only[a1,Option.some.injEq]at hl;subst hl;simp only[Instr.alloc,zeroValue,Zm,X8 hi,hz,newVar,newRow,newObj,ZO,hw]
     simpa using H
  .exact H.elim
 .rename_i e x;refine lift ?_;simp only[vS,M7]at H;simp only[Instr.box,newVar,newRow,newObj,Zm,ZO];exact H
 .exact lift (gC H)
 .refine (?_:hw P (do Instr.storeAt _ _ _;pure Next.skip) (JA P T K) h);rw[Zm];exact A7 H
 .exact lift (A9 H)
 .exact lift (vV H)
 .rename_i x;unfold gu at H;split at H
  .rename_i a hx;show hw P (match ev F x with|.pointer U|.nilIface|.nilFunc=>_|.func (.method name) first captured=>_|x=>_) _ h;rw[hx];exact H
  .rename_i f a b hx;show hw P (match ev F x with|.pointer U|.nilIface|.nilFunc=>_|.func (.method name) first captured=>_|x=>_) _ h;rw[hx];exact H
  .exact H.elim
 .exact lift H
 .exact lift H
 .exact lift H
 .exact lift (EQ H)
 .rename_i fn first captured;refine lift ?_;have e1:∀l:Array a6,l.map (ev F)=(pG F l.toList).toArray:=fun l=>by rw[CZ,<-bp]
  show hw P (Instr.makeFunc fn (first.map (ev F)) (captured.map (ev F))) K h;rw[e1,e1];exact H
 .rename_i f args ts;exact gE (x:=f) (c:=⟨.value f,args,ts⟩) rfl rfl (by rw[CZ];simp) H
 .rename_i b args ts;have e1:args.map (ev F)=(pG F args.toList).toArray:=by rw[CZ,<-bp]
  unfold PZ at H;rw[<-e1]at H;exact H
 .exact lift (ad H)
 .exact lift (ER H)
 .exact lift (pI H)
 .exact lift (pJ H)
 .exact lift (pK H)
 .exact lift (vY H)
 .exact H
theorem QO{o:Oper}(H:Sf P T o.op o.type K F h):EN P T o K F h:=ah H
def Ww:List Oper->Env->Nat->D
 | [],_,_=>undef
 | o :: _,F,0=>match o.dst with|some t=>F t|none=>undef
 | _ :: l,F,n+1=>Ww l F n
def JO(v:D)(b:Bool)(A B:Prop):Prop:=match v with|aa c=>if c=b then A else B|_=>B
def Lf(P:al)(T:am)(ops:List Oper)(N:Env->Hp->Prop):List Oper->Env->Hp->Prop
 | [],F,h=>N F h
 | ⟨d,op,ty,_,_,U⟩ :: l,F,h=>Sf P T op ty (fun v h'=>Lf P T ops N l (YD F d v) h') F h
 | ⟨d,op,ty,_,_,G (j,b)⟩ :: l,F,h=>JO (Ww ops F j) b (Sf P T op ty (fun v h'=>Lf P T ops N l (YD F d v) h') F h) (Lf P T ops N l (YD F d undef) h)
theorem ES(ops:List Oper)(F:Env):∀j,Vd ops.toArray F j=match Ww ops F j with|aa b=>G b|_=>U:=by
 intro j;unfold Vd;rw[cg]
 induction ops generalizing j with
 | nil=>rfl
 | cons o l ih=>
  cases j with
  | zero=>simp only[b7,aw,Ww];cases o.dst<;>rfl
  | succ j=>simp only[b8,Ww];exact ih j
theorem XQ(ops:List Oper)(F:Env)(d:Option Tmp)(op:Op)(pos:String)(Vi:Array Edge)(j:Nat)(b:Bool){A B:Prop}(H:JO (Ww ops F j) b A B):
  (YK ops.toArray ⟨d,op,ty,pos,Vi,G (j,b)⟩ F=true/\A)\/(YK ops.toArray ⟨d,op,ty,pos,Vi,G (j,b)⟩ F=false/\B):=by
 unfold YK br;simp only[ES];unfold JO at H;split at H
 .rename_i c hc;split at H
  .rename_i C0;exact .inl ⟨by simp[C0],H⟩
  .rename_i C0;exact .inr ⟨by simpa using C0,H⟩
 .rename_i Y7;refine .inr ⟨?_,H⟩
  cases hv:Ww ops F j<;>first|rfl|exact (Y7 _ hv).elim
theorem UC{op:Op}{K':D->Hp->Prop}(hk:∀v h,K v h->K' v h)(H:Sf P T op ty K F h):EN P T ⟨U,op,ty, "", #[],U⟩ K' F h:=MX hk (ah H)
theorem VU:∀(l:List Oper) (F:Env) (h:Hp),Lf P T ops N l F h->pC P T ops.toArray N l F h
 | [],F,h,H=>H
 | ⟨d,op,ty,pos,Vi,U⟩ :: l,F,h,H=>by
  show (if YK ops.toArray _ F=true then _ else _);rw[if_pos (by rfl)];exact UC (fun v h' q=>VU l _ _ q) H
 | ⟨d,op,ty,pos,Vi,G (j,b)⟩ :: l,F,h,H=>by
  show (if YK ops.toArray _ F=true then _ else _);rcases XQ ops F d op pos Vi j b H with⟨hw,H⟩|⟨hw,H⟩
  .rw[if_pos hw];exact UC (fun v h' q=>VU l _ _ q) H
  .rw[hw,if_neg IQ];exact VU l _ _ H
def Rc(P:al)(T:am)(ops:List Oper)(S:Hp->Prop)(N:Env->Hp->Prop):List (Nat × Bool × Oper)->Env->Hp->Prop
 | [],F,h=>N F h
 | (_,true,⟨d,op,ty,_,_,U⟩) :: l,F,h=>∃v,(∀h',S h'->Sf P T op ty (fun v' Kw=>v'=v/\Kw=h') F h')/\Rc P T ops S N l (YD F d v) h
 | (_,false,⟨d,op,ty,_,_,U⟩) :: l,F,h=>Sf P T op ty (fun v h'=>S h'/\Rc P T ops S N l (YD F d v) h') F h
 | (_,true,⟨d,op,ty,_,_,G (j,b)⟩) :: l,F,h=>JO (Ww ops F j) b (∃v,(∀h',S h'->Sf P T op ty (fun v' Kw=>v'=v/\Kw=h') F h')/\Rc P T ops S N l (YD F d v) h) (Rc P T ops S N l (YD F d undef) h)
 | (_,false,⟨d,op,ty,_,_,G (j,b)⟩) :: l,F,h=>JO (Ww ops F j) b (Sf P T op ty (fun v h'=>S h'/\Rc P T ops S N l (YD F d v) h') F h) (Rc P T ops S N l (YD F d undef) h)
theorem JE{S:Hp->Prop}:∀(l:List (Nat × Bool × Oper)) (F:Env) (h:Hp),Rc P T ops S N l F h->MZ P T ops.toArray S N l F h
 | [],F,h,H=>H
 | (i,true,⟨d,op,ty,pos,Vi,U⟩) :: l,F,h,H=>by
  show (if YK ops.toArray _ F=true then _ else _);rw[if_pos (by rfl)];obtain⟨v,hv,H⟩:=H;exact⟨v,fun h' hs=>QO (hv h' hs),JE l _ _ H⟩
 | (i,false,⟨d,op,ty,pos,Vi,U⟩) :: l,F,h,H=>by
  show (if YK ops.toArray _ F=true then _ else _);rw[if_pos (by rfl)];exact UC (fun v h' q=>⟨q.1,JE l _ _ q.2⟩) H
 | (i,true,⟨d,op,ty,pos,Vi,G (j,b)⟩) :: l,F,h,H=>by
  show (if YK ops.toArray _ F=true then _ else _);rcases XQ ops F d op pos Vi j b H with⟨hw,H⟩|⟨hw,H⟩
  .rw[if_pos hw];obtain⟨v,hv,H⟩:=H;exact⟨v,fun h' hs=>QO (hv h' hs),JE l _ _ H⟩
  .rw[hw,if_neg IQ];exact JE l _ _ H
 | (i,false,⟨d,op,ty,pos,Vi,G (j,b)⟩) :: l,F,h,H=>by
  show (if YK ops.toArray _ F=true then _ else _);rcases XQ ops F d op pos Vi j b H with⟨hw,H⟩|⟨hw,H⟩
  .rw[if_pos hw];exact UC (fun v h' q=>⟨q.1,JE l _ _ q.2⟩) H
  .rw[hw,if_neg IQ];exact JE l _ _ H
theorem VS.Zgr{X:Nat->Env->Hp->Prop}{R:Env->Hp->Prop}{id:Nat}(hm:P.follows .mixedOrders=true)(Um:Ra n ops.toArray ((bo ops.toArray.size).map fun i=>(i,true))=true)(H:Rc P T ops (fun h'=>h'=h) N (ops.map fun o=>(0,true,o)) F h):VS P n T (.region id ops.toArray true) N X R F h:=by
 refine VS.quiet hm Um ?_;have key:∀(l:List Oper) (k:Nat) (F:Env),(∀j,l[j]? = ops[k+j]?)->Rc P T ops (fun h'=>h'=h) N (l.map fun o=>(0,true,o)) F h ->
   Rc P T ops (fun h'=>h'=h) N (VA ops.toArray ((cC k (M l)).map fun i=>(i,true))) F h:=by
  intro l
  induction l with
  | nil=>intro k F _ H;exact H
  | cons o l ih=>
   intro k F hl H;have h0:ops[k]? = G o:=by simpa using (hl 0).symm
   have fU:∀j,l[j]? = ops[k+1+j]?:=fun j=>by have:=hl (j+1);simpa [cp,cw 1 j] using this
   have e:VA ops.toArray ((cC k (o :: l).length).map fun i=>(i,true))=(k,true,o) :: VA ops.toArray ((cC (k+1) (M l)).map fun i=>(i,true)):=by
    simp[VA,List.range'_succ,h0]
   rw[e];obtain⟨d,op,ty,pos,Vi,g⟩:=o
   cases g with
   | none=>
    obtain⟨v,hv,H⟩:=H;exact⟨v,hv,ih (k+1) _ fU H⟩
   | some jb=>
    obtain⟨j,b⟩:=jb;simp only[c0,Rc]at H ⊢;unfold JO at *;split at H
    .split at H
     .rename_i C0;rw[if_pos C0];obtain⟨v,hv,H⟩:=H;exact⟨v,hv,ih (k+1) _ fU H⟩
     .rename_i C0;rw[if_neg C0];exact ih (k+1) _ fU H
    .exact ih (k+1) _ fU H
 have:=key ops 0 F (fun j=>by simp) H;rw[List.range_eq_range'];exact JE _ _ _ this
def vZ(v:D)(A B:Prop):Prop:=match v with|aa b=>if b=true then A else B|_=>False
def vc(P:al)(n:Nat)(T:am):Code->(Env->Hp->Prop)->(Nat->Env->Hp->Prop)->(Env->Hp->Prop)->Env->Hp->Prop
 | .skip,N,_,_,F,h=>N F h
 | .ret,_,_,R,F,h=>R F h
 | .exit j,_,X,_,F,h=>X j F h
 | .seq a b,N,X,R,F,h=>vc P n T a (fun F h=>vc P n T b N X R F h) X R F h
 | .cond c a b,N,X,R,F,h=>vZ (ev F c) (vc P n T a N X R F h) (vc P n T b N X R F h)
 | .block j c,N,X,R,F,h=>vc P n T c N (fun i F h=>if i=j then N F h else X i F h) R F h
 | .region _ ops false,N,_,_,F,h=>Lf P T ops.toList N ops.toList F h
 | c,N,X,R,F,h=>VS P n T c N X R F h
def codeOk(n:Nat):Code->Bool
 | .seq a b=>codeOk n a&&codeOk n b
 | .cond _ a b=>codeOk n a&&codeOk n b
 | .block _ c=>codeOk n c
 | .region _ ops false=>IA n ops
 | _=>true
theorem QG:∀(c:Code) (N:Env->Hp->Prop) (X:Nat->Env->Hp->Prop) (R:Env->Hp->Prop) (F:Env) (h:Hp),codeOk n c=true->vc P n T c N X R F h->VS P n T c N X R F h:=by
 intro c
 induction c with
 | skip=>intro N X R F h _ H;exact VS.skip H
 | ret=>intro N X R F h _ H;exact VS.ret H
 | exit j=>intro N X R F h _ H;exact VS.exit H
 | seq a b iha ihb=>
  intro N X R F h Um H;simp only[codeOk,aO]at Um;exact VS.seq (VS.mono (iha _ _ _ _ _ Um.1 H) (fun F h q=>ihb _ _ _ _ _ Um.2 q) (fun _ _ _ q=>q) (fun _ _ q=>q))
 | cond c a b iha ihb=>
  intro N X R F h Um H;simp only[codeOk,aO]at Um;simp only[vc,vZ]at H;split at H
  .rename_i t ht;refine VS.cond ht (fun hb=>?_) (fun hb=>?_)
   .rw[if_pos hb]at H;exact iha _ _ _ _ _ Um.1 H
   .rw[if_neg (by simp[hb])]at H;exact ihb _ _ _ _ _ Um.2 H
  .exact H.elim
 | block j c ih=>intro N X R F h Um H;exact VS.block (ih _ _ _ _ _ Um H)
 | region id ops draw=>
  intro N X R F h Um H
  cases draw with
  | true=>exact H
  | false=>exact VS.region Um (by simpa using VU _ _ _ H)
 | _=>intro N X R F h _ H;exact H
theorem Zd.Zcw{f:FuncId}{fn:Func}{c:Code}{l:List ResultVar}{args:List D}(hf:P.funcs[f]? = G fn)(hb:fn.body=G c)(hl:fn.results=l.toArray)(hn:c1 (M args) fn.ntmps=true)(Um:codeOk fn.ntmps c=true)(H:vc P fn.ntmps T c (fun F h'=>Gz P l F Q h') (fun _ _ _=>False) (fun F h'=>Gz P l F Q h') (HE args 0) h):
  Zd P T f args.toArray h Q:=
 Zd.H7 hf hb hl (by simpa using hn) (by simpa using QG _ _ _ _ _ _ Um H)
end
section
variable {P:al} {T:am} {K:D->Hp->Prop} {F:Env} {h:Hp} {ty:O}
def Zcx(P:al)(T:am)(ops:List Oper)(N:Env->Hp->Prop)(l:List Oper)(F:Env)(d:Option Tmp):D->Hp->Prop:=fun v h=>Lf P T ops N l (YD F d v) h
theorem wh{l:List Oper}:Zcx P T ops N l F d v h=Lf P T ops N l (YD F d v) h:=rfl
theorem wm:Lf P T ops N [] F h=N F h:=rfl
theorem gF{l:List Oper}{op:Op}{pos:String}{Vi:Array Edge}:
  Lf P T ops N (⟨d,op,ty,pos,Vi,U⟩ :: l) F h=Sf P T op ty (Zcx P T ops N l F d) F h:=rfl
def gG(P:al)(T:am)(ops:List Oper)(N:Env->Hp->Prop)(l:List Oper)(F:Env)(d:Option Tmp)(op:Op)(ty:O)(v:D)(b:Bool)(h:Hp):Prop:=
 JO v b (Sf P T op ty (Zcx P T ops N l F d) F h) (Lf P T ops N l (YD F d undef) h)
theorem gH{l:List Oper}{op:Op}{pos:String}{Vi:Array Edge}{j:Nat}{b:Bool}:
  Lf P T ops N (⟨d,op,ty,pos,Vi,G (j,b)⟩ :: l) F h=gG P T ops N l F d op ty (Ww ops F j) b h:=rfl
theorem ai{l:List Oper}{op:Op}{b c:Bool}:
  gG P T ops N l F d op ty (.bool c) b h=if c=b then Sf P T op ty (Zcx P T ops N l F d) F h else Lf P T ops N l (YD F d undef) h:=rfl
def Zkg(P:al)(n:Nat)(T:am)(b:Code)(N:Env->Hp->Prop)(X:Nat->Env->Hp->Prop)(R:Env->Hp->Prop):Env->Hp->Prop:=fun F h=>vc P n T b N X R F h
def Zkh(j:Nat)(N:Env->Hp->Prop)(X:Nat->Env->Hp->Prop):Nat->Env->Hp->Prop:=fun i F h=>if i=j then N F h else X i F h
def aj:Nat->Env->Hp->Prop:=fun _ _ _=>False
def pL(P:al)(l:List ResultVar)(Q:D->Hp->Prop):Env->Hp->Prop:=fun F h=>Gz P l F Q h
def Zfh(P:al)(n:Nat)(T:am)(v:D)(a b:Code)(N:Env->Hp->Prop)(X:Nat->Env->Hp->Prop)(R:Env->Hp->Prop)(F:Env)(h:Hp):Prop:=
 vZ v (vc P n T a N X R F h) (vc P n T b N X R F h)
section
variable {n:Nat} {N:Env->Hp->Prop} {X:Nat->Env->Hp->Prop} {R:Env->Hp->Prop}
theorem wq{b:Code}:Zkg P n T b N X R F h=vc P n T b N X R F h:=rfl
theorem wu{j:Nat}:Zkh j N X i F h=if i=j then N F h else X i F h:=rfl
theorem pM:aj i F h=False:=rfl
theorem ww{l:List ResultVar}:pL P l Q F h=Gz P l F Q h:=rfl
theorem Zcy:vc P n T .skip N X R F h=N F h:=rfl
theorem Zgs:vc P n T .ret N X R F h=R F h:=rfl
theorem Zcz{j:Nat}:vc P n T (.exit j) N X R F h=X j F h:=rfl
theorem Zgt{a b:Code}:vc P n T (.seq a b) N X R F h=vc P n T a (Zkg P n T b N X R) X R F h:=rfl
theorem ZcA{c:a6}{a b:Code}:vc P n T (.cond c a b) N X R F h=Zfh P n T (ev F c) a b N X R F h:=rfl
theorem wy{j:Nat}{c:Code}:vc P n T (.block j c) N X R F h=vc P n T c N (Zkh j N X) R F h:=rfl
theorem pN{id:Nat}{l:List Oper}:vc P n T (.region id l.toArray false) N X R F h=Lf P T l N l F h:=rfl
theorem ZcB{id:Nat}{l:Array Oper}:vc P n T (.region id l true) N X R F h=VS P n T (.region id l true) N X R F h:=rfl
theorem ZcC{c:Code}:vc P n T (.loop c) N X R F h=VS P n T (.loop c) N X R F h:=rfl
theorem gI{a b:Code}{t:Bool}:Zfh P n T (aa t) a b N X R F h=if t=true then vc P n T a N X R F h else vc P n T b N X R F h:=rfl
end
theorem Zd.wC{f:FuncId}{fn:Func}{c:Code}{l:List ResultVar}{args:List D}(hf:P.funcs[f]? = G fn)(hb:fn.body=G c)(hl:fn.results=l.toArray)(hn:c1 (M args) fn.ntmps=true)(Um:codeOk fn.ntmps c=true)(H:vc P fn.ntmps T c (pL P l Q) aj (pL P l Q) (HE args 0) h):Zd P T f args.toArray h Q:=Zd.Zcw hf hb hl hn Um H
theorem Zd.XS{f:FuncId}{fn:Func}{c:Code}{l:List ResultVar}(args:List D)(hf:P.funcs[f]? = G fn)(H:vc P fn.ntmps T c (pL P l Q) aj (pL P l Q) (HE args 0) h)(hb:fn.body=G c:=by rfl)(hl:fn.results=l.toArray:=by rfl)(hn:c1 (M args) fn.ntmps=true:=by rfl)(Um:codeOk fn.ntmps c=true:=by rfl):Zd P T f args.toArray h Q:=Zd.wC hf hb hl hn Um H
def XN(I:Env->Hp->Prop)(μ:Env->Hp->Nat)(m:Nat):Env->Hp->Prop:=fun F h=>I F h/\μ F h<m
theorem VS.Yk{X:Nat->Env->Hp->Prop}{R:Env->Hp->Prop}{c:Code}(I:Env->Hp->Prop)(μ:Env->Hp->Nat)(Um:codeOk n c=true)(h0:I F h)(round:∀F h,I F h->vc P n T c (XN I μ (μ F h)) X R F h):VS P n T (.loop c) N X R F h:=
 VS.loop I μ h0 fun F h hI=>QG _ _ _ _ _ _ Um (round F h hI)
theorem Zd.use{f:FuncId}{args:Array D}(c:Zd P T f args h Q)(H:∀v h',Q v h'->K v h'):Zd P T f args h K:=c.mono H
theorem Zd.pure{f:FuncId}{args:Array D}{r:D}(c:Zd P T f args h fun v h'=>v=r/\h'=h)(H:K r h):Zd P T f args h K:=
 c.mono fun _ _ ⟨e1,e2⟩=>by subst e1;subst e2;exact H
def ap(B:D->Prop)(v:D):Prop:=B v
def O3(v:D)(h:Hp):D->Hp->Prop:=fun v' h'=>v'=v/\h'=h
def Kx(P:al)(T:am)(ops:List Oper)(N:Env->Hp->Prop):List Oper->Env->Hp->Prop
 | [],F,h=>N F h
 | ⟨d,op,ty,_,_,U⟩ :: l,F,h=>∃v,Sf P T op ty (O3 v h) F h/\Kx P T ops N l (YD F d v) h
 | ⟨d,op,ty,_,_,G (j,b)⟩ :: l,F,h=>JO (Ww ops F j) b (∃v,Sf P T op ty (O3 v h) F h/\Kx P T ops N l (YD F d v) h) (Kx P T ops N l (YD F d undef) h)
theorem UD:∀(l:List Oper) (F:Env),Kx P T ops N l F h->Rc P T ops (fun h'=>h'=h) N (l.map fun o=>(0,true,o)) F h
 | [],_,H=>H
 | ⟨d,op,ty,pos,Vi,U⟩ :: l,F,H=>by
  obtain⟨v,hv,H⟩:=H;exact⟨v,fun h' e=>by subst e;exact hv,UD l _ H⟩
 | ⟨d,op,ty,pos,Vi,G (j,b)⟩ :: l,F,H=>by
  simp only[Kx,JO]at H;simp only[c0,Rc,JO];split at H
  .split at H
   .rename_i C0;rw[if_pos C0];obtain⟨v,hv,H⟩:=H;exact⟨v,fun h' e=>by subst e;exact hv,UD l _ H⟩
   .rename_i C0;rw[if_neg C0];exact UD l _ H
  .exact UD l _ H
theorem VS.q{X:Nat->Env->Hp->Prop}{R:Env->Hp->Prop}{id:Nat}(hm:P.follows .mixedOrders=true)(Um:Ra n ops.toArray ((bo ops.toArray.size).map fun i=>(i,true))=true)(H:Kx P T ops N ops F h):VS P n T (.region id ops.toArray true) N X R F h:=VS.Zgr hm Um (UD _ _ H)
def qK(P:al)(T:am)(ops:List Oper)(N:Env->Hp->Prop)(l:List Oper)(F:Env)(d:Option Tmp)(h:Hp):D->Prop:=fun v=>Kx P T ops N l (YD F d v) h
def C6(P:al)(T:am)(op:Op)(ty:O)(B:D->Prop)(F:Env)(h:Hp):Prop:=∃v,Sf P T op ty (O3 v h) F h/\ap B v
def wE(P:al)(T:am)(ops:List Oper)(N:Env->Hp->Prop)(l:List Oper)(F:Env)(d:Option Tmp)(op:Op)(ty:O)(v:D)(b:Bool)(h:Hp):Prop:=
 JO v b (C6 P T op ty (qK P T ops N l F d h) F h) (Kx P T ops N l (YD F d undef) h)
theorem wF:Kx P T ops N [] F h=N F h:=rfl
theorem gJ{l:List Oper}{op:Op}{pos:String}{Vi:Array Edge}:
  Kx P T ops N (⟨d,op,ty,pos,Vi,U⟩ :: l) F h=C6 P T op ty (qK P T ops N l F d h) F h:=rfl
theorem gK{l:List Oper}{op:Op}{pos:String}{Vi:Array Edge}{j:Nat}{b:Bool}:
  Kx P T ops N (⟨d,op,ty,pos,Vi,G (j,b)⟩ :: l) F h=wE P T ops N l F d op ty (Ww ops F j) b h:=rfl
theorem ak{l:List Oper}{op:Op}{b c:Bool}:
  wE P T ops N l F d op ty (aa c) b h=if c=b then C6 P T op ty (qK P T ops N l F d h) F h else Kx P T ops N l (YD F d undef) h:=rfl
theorem Zgu{l:List Oper}:qK P T ops N l F d h v=Kx P T ops N l (YD F d v) h:=rfl
def qR(x:Option D)(B:D->Prop):Prop:=match x with|some v=>ap B v|none=>False
theorem ZcD{B:D->Prop}:qR (G v) B=B v:=rfl
theorem ve{B:D->Prop}:(∃u,O3 u h v h/\ap B u)=B v:=by
 apply propext;constructor
 .rintro⟨u,⟨e,_⟩,H⟩;subst e;exact H
 .intro H;exact⟨v,⟨rfl,rfl⟩,H⟩
section
variable {B:D->Prop}
theorem wG:C6 P T (.move x) ty B F h=B (ev F x):=ve
theorem gL:C6 P T (.assign x) ty B F h=B (ev F x):=ve
def wH(c a b:D)(B:D->Prop):Prop:=match c with|aa t=>B (if t then a else b)|_=>False
theorem gM{t:Bool}{a b:D}:wH (aa t) a b B=B (if t=true then a else b):=rfl
theorem wI{c a b:a6}:C6 P T (.pick c a b) ty B F h=wH (ev F c) (ev F a) (ev F b) B:=by
 show (∃u,DC _ _ _ (O3 u h) h/\ap B u)=_;unfold DC wH
 cases ev F c<;>first|exact ve|simp
def mB(s:Option Bool)(n:Option Nat)(p:D)(B:D->Prop)(h:Hp):Prop:=
 match p with
 | J (G a)=>match s,n with
  | some false,_=>qR (hc h a) B
  | some true,G n=>qR ((rd h a n).map fun l=>a0 l.toArray) B
  | _,_=>False
 | _=>False
theorem pO{n:Option Nat}:mB (G false) n (J (G a)) B h=qR (hc h a) B:=rfl
theorem gN:mB (G true) (G n) (J (G a)) B h=qR ((rd h a n).map fun l=>a0 l.toArray) B:=rfl
theorem wJ:C6 P T (.load t x) ty B F h=mB (ta P t) (tn P t) (ev F x) B h:=by
 show (∃u,La _ _ _ (O3 u h) h/\ap B u)=_;unfold La mB
 cases ev F x with
 | pointer a=>
  cases a with
  | none=>simp
  | some a=>
   simp only;rcases ta P t with _|b
   .simp
   .cases b
    .simp only[HF,qR]
     cases hc h a with
     | none=>simp
     | some v=>exact ve
    .rcases tn P t with _|n
     .simp
     .simp only[GA,qR]
      cases rd h a n with
      | none=>simp
      | some v=>exact ve
 | _=>simp
def gO(f:Option Nat)(p:D)(B:D->Prop):Prop:=match f,p with|some o,J (G a)=>B (J (G (a.add o)))|_,_=>False
theorem an{f:Nat}:gO (G o) (J (G ⟨b,f,U⟩)) B=B (J (G ⟨b,f+o,U⟩)):=by
 show B (J (G (Addr.add _ _)))=_;rw[XR]
theorem pP:C6 P T (.fieldAddr t x i) ty B F h=gO (tf P t i) (ev F x) B:=by
 show (∃u,Mk _ _ (O3 u h) h/\ap B u)=_;unfold Mk gO;rcases tf P t i with _|o
 .simp
 .cases ev F x with
  | pointer a=>cases a with
   | none=>simp
   | some a=>exact ve
  | _=>simp
def qIx(arr:Option (Nat × O))(sl:Option O)(n:O->Option Nat)(p i:D)(B:D->Prop):Prop:=
 match i with
 | .int _ i=>(match arr,sl,p with
  | some (len,e),U,J (G a)=>(match n e with
   | some n=>if 0<=i/\i<(len:Int) then B (J (G (a.add (i.toNat*n)))) else False
   | none=>False)
  | none,G e,Z (G a) len _=>(match n e with
   | some n=>if 0<=i/\i<(len:Int) then B (J (G (a.add (i.toNat*n)))) else False
   | none=>False)
  | _,_,_=>False)
 | _=>False
def ZcE(m:Option Nat)(len:Nat)(a:Addr)(i:Int)(B:D->Prop):Prop:=
 match m with|some m=>if 0<=i/\i<(len:Int) then B (J (G (a.add (i.toNat*m)))) else False|none=>False
theorem ZcF{n:O->Option Nat}{i:Int}:qIx (G (len,e)) U n (J (G a)) (.int k i) B=ZcE (n e) len a i B:=rfl
theorem pQ{n:O->Option Nat}{i:Int}:qIx U (G e) n (Z (G a) len cap) (.int k i) B=ZcE (n e) len a i B:=rfl
theorem pR{f:Nat}{i:Int}:ZcE (G m) len ⟨b,f,U⟩ i B=if 0<=i/\i<(len:Int) then B (J (G ⟨b,f+i.toNat*m,U⟩)) else False:=by
 simp only[ZcE,XR]
theorem Mo{c:Prop}[Decidable c]{A:D->Prop}:(∃u,(if c then A u else False)/\ap B u)=if c then (∃u,A u/\ap B u) else False:=by
 split<;>simp
theorem Zgv{i:a6}:C6 P T (.indexAddr t x i) ty B F h=qIx (Xx P t) (QY P t) (tn P) (ev F x) (ev F i) B:=by
 show (∃u,vIx _ _ _ _ _ (O3 u h) h/\ap B u)=_;unfold vIx qIx
 cases ev F i with
 | int k i=>
  simp only;rcases Xx P t with _|⟨len,e⟩
  .rcases QY P t with _|e
   .simp
   .cases ev F x with
    | slice a len cap=>
     cases a with
     | none=>simp
     | some a=>
      simp only;rcases tn P e with _|n
      .simp
      .simp only;rw[Mo,ve]
    | _=>simp
  .rcases QY P t with _|e'
   .cases ev F x with
    | pointer a=>
     cases a with
     | none=>simp
     | some a=>
      simp only;rcases tn P e with _|n
      .simp
      .simp only;rw[Mo,ve]
    | _=>simp
   .simp
 | _=>simp
def Lh(v:D)(i:Nat)(B:D->Prop):Prop:=match v with|.tuple vs=>qR (vs[i]?) B|_=>False
theorem GG:Lh (.tuple l.toArray) i B=qR (nth l i) B:=by simp[Lh,YU]
theorem ao:C6 P T (.extract x i) ty B F h=Lh (ev F x) i B:=by
 show (∃u,Vg _ _ (O3 u h) h/\ap B u)=_;unfold Vg Lh
 cases ev F x with
 | tuple vs=>
  simp only[HF,qR]
  cases vs[i]? with
  | none=>simp
  | some v=>exact ve
 | _=>simp
def Zgw(v:D)(B:D->Prop):Prop:=match v with|J (G a)=>B (J (G a))|.func (.func f) x y=>B (.func (.func f) x y)|_=>False
theorem C7:Zgw (J (G a)) B=B (J (G a)):=rfl
theorem ZcG:C6 P T (.nilCheck x) ty B F h=Zgw (ev F x) B:=by
 show (∃u,gu _ (O3 u h) h/\ap B u)=_;unfold gu Zgw
 cases ev F x with
 | pointer a=>cases a with
  | none=>simp
  | some a=>exact ve
 | func f a b=>cases f with
  | func f=>exact ve
  | _=>simp
 | _=>simp
theorem ZcH{op:BinOp}{t':O}:C6 P T (.binOp op t x y t') ty B F h = ∃u,XP P op t x y (ev F x) (ev F y) (O3 u h) h/\ap B u:=rfl
theorem Zgx{op:UnOp}:C6 P T (.unOp op t x) ty B F h = ∃u,vUn P op (ev F x) (O3 u h) h/\ap B u:=rfl
theorem wM{s d:O}:C6 P T (.convert s d x) ty B F h = ∃u,Lb P s d (ev F x) (O3 u h) h/\ap B u:=rfl
theorem Zgy{b:Builtin}{args:Array a6}{ts:Array O}:C6 P T (.call ⟨.builtin b,args,ts⟩) ty B F h =
  ∃u,PZ P T b ts ty (args.map fun|.const _=>true|_=>false) (pG F args.toList) (O3 u h) h/\ap B u:=rfl
end
theorem Zgz{t:Nat}:ev F (.tmp t)=F t:=rfl
theorem wP:ev F (.const v)=v:=rfl
theorem pS{g:Nat}:ev F (.global g)=J (G ⟨g,0,U⟩):=rfl
theorem ZcI{g:Nat}:ev F (.func g)=.func (.func g) #[] #[]:=rfl
theorem Zr{d:Nat}{t:Nat}:YD F (G d) v t=if t=d then v else F t:=rfl
theorem pT:YD F U v=F:=rfl
theorem ZcJ{d:Nat}{t:Nat}:upd F d v t=if t=d then v else F t:=rfl
theorem gP{t:Bool}{a b:D}:DC (aa t) a b K h=K (if t=true then a else b) h:=rfl
theorem pU:vS (G l) t K h=K (J (G ⟨h.size,0,U⟩)) (h.push (Y l.toArray t)):=rfl
theorem pV:HF (G v) K h=K v h:=rfl
theorem pW:GA (G l) K h=K (a0 l.toArray) h:=rfl
theorem DG{n:Option Nat}:La (G false) n (J (G a)) K h=HF (hc h a) K h:=rfl
theorem GH:La (G true) (G n) (J (G a)) K h=GA (rd h a n) K h:=rfl
theorem wU:mo (G h') K=K undef h':=rfl
theorem gQ{i:Int}:VB (G n) (J (G a)) (.int k i) K h=if n=1 then mo (QX h a (.int k i)) K else False:=rfl
theorem aq{b:Bool}:VB (G n) (J (G a)) (aa b) K h=if n=1 then mo (QX h a (aa b)) K else False:=rfl
theorem C8{p:Option Addr}{l c:Nat}:VB (G n) (J (G a)) (Z p l c) K h=if n=1 then mo (QX h a (Z p l c)) K else False:=rfl
theorem ET{s:ByteArray}:VB (G n) (J (G a)) (.string s) K h=if n=1 then mo (QX h a (.string s)) K else False:=rfl
theorem GJ{p:Option Addr}:VB (G n) (J (G a)) (.pointer p) K h=if n=1 then mo (QX h a (.pointer p)) K else False:=rfl
theorem gS{p:Option Nat}:VB (G n) (J (G a)) (.map p) K h=if n=1 then mo (QX h a (.map p)) K else False:=rfl
theorem ar{f:Fn}{x y:Array D}:VB (G n) (J (G a)) (.func f x y) K h=if n=1 then mo (QX h a (.func f x y)) K else False:=rfl
theorem GK:VB (G n) (J (G a)) .nilFunc K h=if n=1 then mo (QX h a .nilFunc) K else False:=rfl
theorem gT:VB (G n) (J (G a)) (a0 l.toArray) K h=if n=(M l) then mo (wr h a l) K else False:=rfl
theorem au{f:Nat}:Mk (G o) (J (G ⟨b,f,U⟩)) K h=K (J (G ⟨b,f+o,U⟩)) h:=by
 show K (J (G (Addr.add _ _))) h=_;rw[XR]
def ZcK(m:Option Nat)(len:Nat)(a:Addr)(i:Int)(K:D->Hp->Prop)(h:Hp):Prop:=
 match m with|some m=>if 0<=i/\i<(len:Int) then K (J (G (a.add (i.toNat*m)))) h else False|none=>False
theorem ZcL{n:O->Option Nat}{i:Int}:
  vIx (G (len,e)) U n (J (G a)) (.int k i) K h=ZcK (n e) len a i K h:=rfl
theorem pZ{n:O->Option Nat}{i:Int}:
  vIx U (G e) n (Z (G a) len cap) (.int k i) K h=ZcK (n e) len a i K h:=rfl
theorem qc{f:Nat}{i:Int}:ZcK (G m) len ⟨b,f,U⟩ i K h=if 0<=i/\i<(len:Int) then K (J (G ⟨b,f+i.toNat*m,U⟩)) h else False:=by
 simp only[ZcK,XR]
theorem GL:Vg (.tuple l.toArray) i K h=HF (nth l i) K h:=by simp[Vg,YU]
theorem C9:gu (J (G a)) K h=K (J (G a)) h:=rfl
theorem qd{f:FuncId}{x y:Array D}:gu (.func (.func f) x y) K h=K (.func (.func f) x y) h:=rfl
theorem gU{f:FuncId}(hg:goes P f=true):GB P T (.func (.func f) #[] #[]) l K h=Zd P T f l.toArray h K:=by
 simp only[GB,hg,↓reduceIte];simp
theorem wX{a b:Int}:XP P .add t x y (.int k a) (.int k b) K h=K (.int k (k.wrap (a+b))) h:=by
 simp[XP,binOp,Op.intArith,ZO,eqGuard]
theorem wZ{a b:Int}:XP P .sub t x y (.int k a) (.int k b) K h=K (.int k (k.wrap (a-b))) h:=by
 simp[XP,binOp,Op.intArith,ZO,eqGuard]
theorem xd{a b:Int}:XP P .mul t x y (.int k a) (.int k b) K h=K (.int k (k.wrap (a*b))) h:=by
 simp[XP,binOp,Op.intArith,ZO,eqGuard]
theorem xe{a b:Int}:XP P .quo t x y (.int k a) (.int k b) K h=if b=0 then False else K (.int k (k.wrap (a.tdiv b))) h:=by
 simp only[XP,binOp,Op.intDiv,Zm,eqGuard];by_cases hb:b=0
 .subst hb;simp[runtimePanic,goPanic,Zm,hw,ZO,program]
 .simp[hb,ZO]
theorem xf{a b:Int}:XP P .rem t x y (.int k a) (.int k b) K h=if b=0 then False else K (.int k (a.tmod b)) h:=by
 simp only[XP,binOp,Op.intDiv,Zm,eqGuard];by_cases hb:b=0
 .subst hb;simp[runtimePanic,goPanic,Zm,hw,ZO,program]
 .simp[hb,ZO]
def YO(op:BinOp)(k:IntKind)(a b:Int):Int:=
 let x:=BitVec.ofInt k.bits a
 let y:=BitVec.ofInt k.bits b
 k.wrap (match op with|.and=>x &&& y|.or=>x ||| y|.xor=>x ^^^ y|_=>x &&& ~~~y).toNat
theorem xh{a b:Int}:XP P .and t x y (.int k a) (.int k b) K h=K (.int k (YO .and k a b)) h:=by
 simp[XP,binOp,Op.intBits,ZO,eqGuard,YO]
theorem ZcM{a b:Int}:XP P .or t x y (.int k a) (.int k b) K h=K (.int k (YO .or k a b)) h:=by
 simp[XP,binOp,Op.intBits,ZO,eqGuard,YO]
theorem xj{a b:Int}:XP P .xor t x y (.int k a) (.int k b) K h=K (.int k (YO .xor k a b)) h:=by
 simp[XP,binOp,Op.intBits,ZO,eqGuard,YO]
theorem av{a b:Int}:XP P .andNot t x y (.int k a) (.int k b) K h=K (.int k (YO .andNot k a b)) h:=by
 simp[XP,binOp,Op.intBits,ZO,eqGuard,YO]
def Xr(k:IntKind)(a b:Int):Int:=k.wrap (a*2 ^ min b.toNat k.bits)
def XF(k:IntKind)(a b:Int):Int:=a.fdiv (2 ^ min b.toNat k.bits)
theorem xm{k':IntKind}{a b:Int}:XP P .shl t x y (.int k a) (.int k' b) K h=if b<0 then False else K (.int k (Xr k a b)) h:=by
 simp only[XP,binOp,Op.shift,Zm,eqGuard];by_cases hb:b<0
 .simp[hb,runtimePanic,goPanic,Zm,hw,ZO,program]
 .simp[hb,ZO,Xr]
theorem xo{k':IntKind}{a b:Int}:XP P .shr t x y (.int k a) (.int k' b) K h=if b<0 then False else K (.int k (XF k a b)) h:=by
 simp only[XP,binOp,Op.shift,Zm,eqGuard];by_cases hb:b<0
 .simp[hb,runtimePanic,goPanic,Zm,hw,ZO,program]
 .simp[hb,ZO,XF]
theorem xp{a b:Int}:XP P .eql t x y (.int k a) (.int k b) K h=K (aa (decide (a=b))) h:=by
 simp[XP,binOp,Op.intCmp,ZO,eqGuard];rfl
theorem xq{a b:Int}:XP P .neq t x y (.int k a) (.int k b) K h=K (aa (decide (a≠b))) h:=by
 simp[XP,binOp,Op.intCmp,ZO,eqGuard];have:(a != b) = !decide (a=b):=by rfl
 rw[this]
theorem xr{a b:Int}:XP P .lss t x y (.int k a) (.int k b) K h=K (aa (decide (a<b))) h:=by
 simp[XP,binOp,Op.intCmp,ZO,eqGuard]
theorem xt{a b:Int}:XP P .leq t x y (.int k a) (.int k b) K h=K (aa (decide (a<=b))) h:=by
 simp[XP,binOp,Op.intCmp,ZO,eqGuard]
theorem xu{a b:Int}:XP P .gtr t x y (.int k a) (.int k b) K h=K (aa (decide (b<a))) h:=by
 simp[XP,binOp,Op.intCmp,ZO,eqGuard]
theorem xw{a b:Int}:XP P .geq t x y (.int k a) (.int k b) K h=K (aa (decide (b<=a))) h:=by
 simp[XP,binOp,Op.intCmp,ZO,eqGuard]
theorem ZcN{b:Bool}:vUn P .not (aa b) K h=K (aa (!b)) h:=rfl
theorem ZcO{a:Int}:vUn P .neg (.int k a) K h=K (.int k (k.wrap (0-a))) h:=rfl
theorem ZcP{a:Int}:vUn P .xor (.int k a) K h=K (.int k (YO .xor k (if k.signed then -1 else k.max) a)) h:=rfl
def xx(d:Option IntKind)(a:Int)(K:D->Hp->Prop)(h:Hp):Prop:=match d with|some k=>K (.int k (k.wrap a)) h|none=>False
theorem ax{a:Int}:xx (G k) a K h=K (.int k (k.wrap a)) h:=rfl
theorem qe{s d:O}{j:IntKind}{a:Int}(hs:(EO P s).isSome=true)(hd:(EO P d).isSome=true):Lb P s d (.int j a) K h=xx (EO P d) a K h:=by
 unfold EO at hd hs;split at hd
 .rename_i k1 h1;split at hs
  .rename_i k2 h2;simp only[Lb,convert,Zm,ZH h1,ZH h2];unfold EO;rw[h1];rfl
  .cases hs
 .cases hd
theorem gW{d:Nat}{a b:Bool}(ht:P.underlying t=G .bool){Q:Bool->Hp->Prop}:hw P (Op.equalIn (d+1) t (aa a) (aa b)) Q h=Q (a == b) h:=by
 simp only[Op.equalIn];rw[Zm,ZH ht];rfl
theorem qf{a b:Bool}(ht:P.underlying t=G .bool):XP P .eql t x y (aa a) (aa b) K h=K (aa (a == b)) h:=by
 show hw P (do pure (aa (<-Op.equalIn (9999+1) t (aa a) (aa b)))) K h=_;rw[Zm,gW ht];rfl
theorem qg{a b:ByteArray}:XP P .eql t x y (.string a) (.string b) K h=K (aa (a.toList == b.toList)) h:=by
 simp[XP,binOp,Op.stringOp,ZO,eqGuard]
theorem qh{a b:ByteArray}:XP P .neq t x y (.string a) (.string b) K h=K (aa (!(a.toList == b.toList))) h:=by
 simp[XP,binOp,Op.stringOp,ZO,eqGuard]
theorem Ba{cs:Array Bool}{p:Option Addr}{l c:Nat}(ht:(QY P t).isSome=true):
  PZ P T .len #[t] ty cs [Z p l c] K h=K (.int .i64 l) h:=by
 unfold QY at ht;split at ht
 .rename_i e' hu;simp[PZ,builtin,c3,Zm,ZO,ZH hu,JA,goInt]
 .cases ht
theorem qi(h:Vf P t=true):P.underlying t=G .string:=by
 unfold Vf at h;split at h
 .assumption
 .cases h
def ZcQ(P:al)(t:O):Bool:=match P.underlying t with|some .bool=>true|_=>false
theorem qj(h:ZcQ P t=true):P.underlying t=G .bool:=by
 unfold ZcQ at h;split at h
 .assumption
 .cases h
theorem EU{cs:Array Bool}{s:ByteArray}(ht:Vf P t=true):
  PZ P T .len #[t] ty cs [.string s] K h=K (.int .i64 s.size) h:=by
 simp[PZ,builtin,c3,Zm,ZO,ZH (qi ht),JA,goInt]
theorem ZcR{ts:Array O}{cs:Array Bool}{k':IntKind}{a b:Int}:PZ P T .min ts ty cs [.int k a,.int k' b] K h=K (.int k (if b<a then b else a)) h:=by
 simp[PZ,builtin,Builtin.min_,Builtin.min2,ZO,JA]
theorem ZcS{ts:Array O}{cs:Array Bool}{k':IntKind}{a b:Int}:PZ P T .max ts ty cs [.int k a,.int k' b] K h=K (.int k (if b>a then b else a)) h:=by
 simp[PZ,builtin,Builtin.max_,Builtin.max2,ZO,JA]
end
section
variable {P:al} {T:am} {K:D->Hp->Prop} {F:Env} {h:Hp} {ty:O} {B:D->Prop}
def xy(p:Option (Nat × Nat))(place:Nat->Option (Nat × Nat))(cs:List D)(v:D)(l:List (Nat × D)):Option (List D):=
 match p with
 | some (o,s)=>if (cl v).length=s/\o+s<=(M cs) then Vh place (Xd cs o (cl v)) l else U
 | none=>U
theorem qk:Vh place cs []=G cs:=rfl
theorem gX{l:List (Nat × D)}:Vh place cs ((i,v) :: l)=xy (place i) place cs v l:=rfl
theorem ay{s:Nat}{l:List (Nat × D)}:
  xy (G (o,s)) place cs v l=if (cl v).length=s/\o+s<=(M cs) then Vh place (Xd cs o (cl v)) l else U:=rfl
theorem qm:Lc n i=G (i*n,n):=rfl
theorem EV{z:List D}{pl:List (Nat × Nat)}{n:O->Option Nat}:Ml (G z) (G pl) U n parts K h=GA (Vh (nth pl) z parts) K h:=rfl
theorem gY{z:List D}{e:Nat}{n:O->Option Nat}:Ml (G z) U (G (m,e)) n parts K h=H8 (n e) z parts K h:=rfl
theorem Bb{z:List D}:H8 (G n) z parts K h=GA (Vh (Lc n) z parts) K h:=rfl
theorem hO:mq e len (G l) K h=K (Z (G ⟨h.size,0,U⟩) len len) (h.push (Y l.toArray e)):=rfl
theorem GM{z:List D}:OZ e (G n) (G z) len parts K h=if (M z)=n/\len*n<=16777216 then mq e len (H9 n len z parts) K h else False:=rfl
theorem EW{n:O->Option Nat}{z:O->Option (List D)}:Ld (G e) n z len parts K h=OZ e (n e) (z e) len parts K h:=rfl
theorem hU:IE (G true) (G n) cs o K h=K (a0 ((cs.drop o).take n).toArray) h:=rfl
theorem az{n:Option Nat}:IE (G false) n cs o K h=HF (nth cs o) K h:=rfl
theorem qn{t:Nat}{a:O->Option Bool}{n:O->Option Nat}:vU (G (o,t)) a n (a0 cs.toArray) K h=IE (a t) (n t) cs o K h:=rfl
theorem xz{e:Nat}{a:O->Option Bool}{n:O->Option Nat}{i:Int}:pH (G (len,e)) false a n (a0 cs.toArray) (.int k i) K h=mw (n e) (a e) len cs i K h:=rfl
theorem ib{a:Option Bool}{i:Int}:mw (G m) a len cs i K h=if 0<=i/\i<(len:Int) then IE a (G m) cs (i.toNat*m) K h else False:=rfl
theorem xC{a:O->Option Bool}{n:O->Option Nat}{s:ByteArray}{i:Int}:pH U true a n (.string s) (.int k i) K h=if 0<=i/\i<(s.size:Int) then K (.int .u8 ((s.data.toList.getD i.toNat 0).toNat:Nat)) h else False:=rfl
theorem ZcT{d y:Nat}:sb U d y=G d:=rfl
theorem ZgA{i:Int}{d y:Nat}:sb (G (.int k i)) d y=if 0<=i/\i<=(y:Int) then G i.toNat else U:=rfl
def NU(a:Option Addr)(n cap b:Nat)(l:Option Nat)(K:D->Hp->Prop)(h:Hp):Prop:=
 match l with|some l=>K (Z (if cap=l then a else a.map (·.add (l*n))) (b-l) (cap-l)) h|none=>False
def xE(n:Nat)(a:Option Addr)(cap:Nat)(lo:Option D)(b:Option Nat)(K:D->Hp->Prop)(h:Hp):Prop:=
 match b with|some b=>NU a n cap b (sb lo 0 b) K h|none=>False
theorem ic{a:Option Addr}{hi:Option D}:PG (G n) a len cap lo hi K h=xE n a cap lo (sb hi len cap) K h:=by
 unfold PG xE NU
 cases sb hi len cap<;>rfl
theorem ie{a:Option Addr}:xE n a cap lo (G b) K h=NU a n cap b (sb lo 0 b) K h:=rfl
theorem ig{l k:Nat}:NU (G ⟨k,o,U⟩) n cap b (G l) K h=K (Z (if cap=l then G ⟨k,o,U⟩ else G ⟨k,o+l*n,U⟩) (b-l) (cap-l)) h:=by
 simp only[NU,a1,XR]
theorem ii{l:Nat}:NU U n cap b (G l) K h=K (Z U (b-l) (cap-l)) h:=by
 simp[NU]
theorem ij{e:Nat}{str:Bool}{n:O->Option Nat}{a:Option Addr}{hi:Option D}:EP U (G e) str n (Z a len cap) lo hi U K h=PG (n e) a len cap lo hi K h:=rfl
def xF(n:Option Nat)(a:Option Addr)(len:Nat)(lo:Option D)(hv:D)(m:Option Nat)(K:D->Hp->Prop)(h:Hp):Prop:=match m with|some m=>PG n a len m lo (G hv) K h|none=>False
theorem ik{n:Option Nat}{a:Option Addr}{hv:D}:xF n a len lo hv (G m) K h=PG n a len m lo (G hv) K h:=rfl
theorem xH{e:Nat}{str:Bool}{n:O->Option Nat}{a:Option Addr}{hv mv:D}:EP U (G e) str n (Z a len cap) lo (G hv) (G mv) K h=xF (n e) a len lo hv (sb (G mv) 0 cap) K h:=by
 simp only[EP,xF]
 cases sb (G mv) 0 cap<;>rfl
theorem xI{e:Nat}{str:Bool}{n:O->Option Nat}{hi:Option D}:EP (G (len,e)) U str n (J (G a)) lo hi U K h=PG (n e) (G a) len len lo hi K h:=rfl
def Zki(s:ByteArray)(lo:Option D)(b:Option Nat)(K:D->Hp->Prop)(h:Hp):Prop:=
 match b with
 | some b=>(match sb lo 0 b with|some l=>K (.string (s.extract l b)) h|none=>False)
 | none=>False
theorem xK{n:O->Option Nat}{s:ByteArray}{hi:Option D}:EP U U true n (.string s) lo hi U K h=Zki s lo (sb hi s.size s.size) K h:=rfl
theorem xM{e:Nat}{n b':O->Option Nat}{z:O->Option (List D)}{k':IntKind}{l c:Int}:vMk (G e) n b' z (.int k l) (.int k' c) K h=Zct e (n e) (b' e) (z e) l c K h:=rfl
theorem qo{e by':Nat}{z:List D}{l c:Int}:Zct e (G n) (G by') (G z) l c K h =
  if (M z)=n/\0<=l/\l<=c/\c<=9223372036854775807/\(by':Int)*c<=281474976710656 then K (Z (G ⟨h.size,0,U⟩) l.toNat c.toNat) (h.push (Y (Qr c.toNat z).toArray e)) else False:=rfl
theorem ZcU:C6 P T (.field t x i) ty B F h = ∃u,vU (tfl P t i) (ta P) (tn P) (ev F x) (O3 u h) h/\ap B u:=rfl
theorem ZcV{i:a6}:C6 P T (.index t x i) ty B F h = ∃u,pH (Xx P t) (Vf P t) (ta P) (tn P) (ev F x) (ev F i) (O3 u h) h/\ap B u:=rfl
theorem ZcW{lo hi mx:Option a6}:C6 P T (.slice t x lo hi mx) ty B F h = ∃u,EP (Xx P t) (QY P t) (Vf P t) (tn P) (ev F x) (my F lo) (my F hi) (my F mx) (O3 u h) h/\ap B u:=rfl
theorem qp{parts:Array (Nat × a6)}:C6 P T (.build t parts) ty B F h = ∃u,Ml (tz P t) (NS P t) (Xx P t) (tn P) (gv F parts.toList) (O3 u h) h/\ap B u:=rfl
theorem ZgB:cl (a0 l.toArray)=l:=rfl
theorem O9:hc (h.push (Y l.toArray t)) ⟨b,o,U⟩=if b=h.size then nth l o else hc h ⟨b,o,U⟩:=by
 unfold hc;simp only[a3];by_cases hb:b=h.size
 .subst hb;simp[YU]
 .simp[hb]
theorem mC:rd (h.push (Y l.toArray t)) ⟨b,o,U⟩ n=if b=h.size then (if o+n<=(M l) then G ((l.drop o).take n) else U) else rd h ⟨b,o,U⟩ n:=by
 unfold rd;simp only[a3];by_cases hb:b=h.size
 .subst hb;simp
 .simp[hb]
def aA(x:Option Hp)(o:Obj):Option Hp:=match x with|some h=>G (h.push o)|none=>U
theorem il{o:Obj}:aA (G h) o=G (h.push o):=rfl
theorem set_push{o o':Obj}(hb:b<h.size):(h.push o).setIfInBounds b o'=(h.setIfInBounds b o').push o:=by
 apply bc;intro i;simp only[aN,a3,bh,Array.size_setIfInBounds];by_cases h1:b=i
 .subst h1;rw[if_pos rfl,if_pos pA,if_neg pA,if_pos rfl,if_pos hb]
 .rw[if_neg h1];by_cases h2:i=h.size
  .rw[if_pos h2,if_pos h2]
  .rw[if_neg h2,if_neg h2,if_neg h1]
theorem Q2{o o':Obj}:(h.push o).setIfInBounds h.size o'=h.push o':=by
 apply bc;intro i;simp only[aN,a3,bh];by_cases h1:h.size=i
 .subst h1;rw[if_pos rfl,if_pos pA,if_pos rfl]
 .rw[if_neg h1,if_neg (fun e=>h1 e.symm),if_neg (fun e=>h1 e.symm)]
theorem xN:QX (h.push (Y l.toArray t)) ⟨b,o,U⟩ v=if b=h.size then (if o<(M l)/\YE v=true then G (h.push (Y (l.set o v).toArray t)) else U) else aA (QX h ⟨b,o,U⟩ v) (Y l.toArray t):=by
 unfold QX;simp only[a3];by_cases hb:b=h.size
 .subst hb;simp only[↓reduceIte,cx,bx,true_and,Q2,List.setIfInBounds_toArray]
 .simp only[if_neg hb]
  cases hx:h[b]? with
  | none=>rfl
  | some ob=>
   have ZT:=(a5.1 hx).1
   cases ob with
   | cells c e fr=>
    obtain⟨lo,hi⟩:=fr;simp only;split
    .simp only[aA,set_push ZT]
    .rfl
   | _=>rfl
theorem ZcX{vs:List D}:wr (h.push (Y l.toArray t)) ⟨b,o,U⟩ vs=if b=h.size then (if o+(M vs)<=(M l)/\vs.all YE=true then G (h.push (Y (Xd l o vs).toArray t)) else U) else aA (wr h ⟨b,o,U⟩ vs) (Y l.toArray t):=by
 unfold wr;simp only[a3];by_cases hb:b=h.size
 .subst hb;simp only[↓reduceIte,cx,bx,true_and,Q2]
 .simp only[if_neg hb]
  cases hx:h[b]? with
  | none=>rfl
  | some ob=>
   have ZT:=(a5.1 hx).1
   cases ob with
   | cells c e fr=>
    obtain⟨lo,hi⟩:=fr;simp only;split
    .simp only[aA,set_push ZT]
    .rfl
   | _=>rfl
end
def X6(h:Hp)(b o:Nat)(cs:List D):Prop:=∀i (hi:i<(M cs)),hc h ⟨b,o+i,U⟩=G cs[i]
def Sl(n:Nat)(h:Hp)(v:D)(m:Nat)(cs:List D):Prop:=
 ∃p cap,v=Z p m cap/\(M cs)=m*n/\(cs≠[]->∃b o,p=G ⟨b,o,U⟩/\X6 h b o cs)
def UO(B:Nat)(E:O)(n:Nat)(h:Hp)(v:D)(m:Nat)(cs:List D):Prop:=
 ((∃p,v=Z p 0 0)/\m=0/\cs=[]) \/
 ∃b cap ZG,B<=b/\v=Z (G ⟨b,0,U⟩) m cap/\h[b]? = G (Y (cs++ZG).toArray E (0,0))/\(M cs)=m*n/\(M ZG)=(cap-m)*n/\m<=cap
structure Zj(B:Nat)(h h':Hp):Prop where
 size:h.size<=h'.size
 block:∀b,b<B->h'[b]? = h[b]?
theorem Zj.refl(B:Nat)(h:Hp):Zj B h h:=⟨bx _,fun _ _=>rfl⟩
theorem Zj.trans{Kw:Hp}(a:Zj B h h')(b:Zj B h' Kw):Zj B h Kw:=
 ⟨Nat.le_trans a.size b.size,fun k hk=>(b.block k hk).trans (a.block k hk)⟩
theorem Zj.mono{B':Nat}(a:Zj B h h')(hB:B'<=B):Zj B' h h':=⟨a.size,fun k hk=>a.block k (Nat.lt_of_lt_of_le hk hB)⟩
theorem Zj.push(hB:B<=h.size)(o:Obj):Zj B h (h.push o):=
 ⟨IQ,fun k hk=>by rw[a3,if_neg pA]⟩
theorem Zj.set(hb:B<=b)(o:Obj):Zj B h (h.setIfInBounds b o):=
 ⟨IQ,fun k hk=>by rw[aN,if_neg pA]⟩
theorem Zj.hc(a:Zj B h h'){p:Addr}(hp:p.block<B):hc h' p=hc h p:=by unfold V.hc;rw[a.block _ hp]
theorem Za{o:Obj}(hb:h[b]? = G o):b<h.size:=(a5.1 hb).1
theorem Vj{p:Addr}(hp:hc h p=G v):p.block<h.size:=by
 unfold hc at hp
 cases hb:h[p.block]? with
 | none=>rw[hb]at hp;cases hp
 | some o=>exact Za hb
theorem Re{c:Array D}{fr:Nat × Nat}(hb:h[b]? = G (Y c e fr))(o:Nat):hc h ⟨b,o,U⟩=c[o]?:=by
 unfold hc;simp only[hb];rfl
theorem Zj.X6(a:Zj B h h')(hb:b<B)(XL:X6 h b o cs):X6 h' b o cs:=
 fun i hi=>by rw[a.hc (by exact hb)];exact XL i hi
theorem Sl.Yz(s:Sl n h v m cs)(a:Zj h.size h h'):Sl n h' v m cs:=by
 obtain⟨p,cap,hv,hl,hc⟩:=s;refine⟨p,cap,hv,hl,fun Y7=>?_⟩;obtain⟨b,o,hp,XL⟩:=hc Y7;refine⟨b,o,hp,a.X6 ?_ XL⟩;have GC:0<(M cs):=bB.2 Y7;exact Vj (XL 0 GC)
theorem UO.sl(s:UO B E n h v m cs):Sl n h v m cs:=by
 rcases s with⟨⟨p,rfl⟩,rfl,rfl⟩|⟨b,cap,ZG,hB,rfl,hb,hl,_,_⟩
 .exact⟨p,0,rfl,IQ,fun h=>(h rfl).elim⟩
 .refine⟨_,cap,rfl,hl,fun _=>⟨b,0,rfl,fun i hi=>?_⟩⟩;rw[Re hb,ca];simp[b1 hi]
theorem UO.nil(B:Nat)(E:O)(n:Nat)(h:Hp):UO B E n h (Z U 0 0) 0 []:=.inl ⟨⟨U,rfl⟩,rfl,rfl⟩
theorem UO.EX(B:Nat)(E:O)(n:Nat)(h:Hp)(p:Option Addr):UO B E n h (Z p 0 0) 0 []:=.inl ⟨⟨p,rfl⟩,rfl,rfl⟩
def Yf:D->Option Nat
 | Z (G a) _ cap=>if cap=0 then U else G a.block
 | _=>U
structure RT(x:Option Nat)(h h':Hp):Prop where
 size:h.size<=h'.size
 block:∀b,b<h.size->x≠G b->h'[b]? = h[b]?
theorem RT.Yz{x:Option Nat}(a:RT x h h')(hB:B<=h.size)(hx:∀b,x=G b->B<=b):Zj B h h':=
 ⟨a.size,fun k hk=>a.block k pA (fun e=>by have:=hx k e;omega)⟩
theorem UO.ZZ(s:UO B E n h v m cs):∀b,Yf v=G b->B<=b:=by
 intro b hb;rcases s with⟨⟨p,rfl⟩,_,_⟩|⟨b',cap,ZG,hB,rfl,_⟩
 .cases p<;>simp[Yf]at hb
 .simp only[Yf]at hb;split at hb
  .cases hb
  .simp only[Option.some.injEq]at hb;omega
theorem UO.mD(s:UO B E n h v m cs){x:Option Nat}(a:RT x h h')(hx:∀b,Yf v=G b->x≠G b):UO B E n h' v m cs:=by
 rcases s with s|⟨b,cap,ZG,hB,rfl,hb,r⟩
 .exact .inl s
 .by_cases hc:cap=0
  .subst hc;obtain⟨r1,r2,r3⟩:=r;have hm:m=0:=pA;subst hm;exact .inl ⟨⟨_,rfl⟩,rfl,a2 (by simpa using r1)⟩
  .exact .inr ⟨b,cap,ZG,hB,rfl,by rw[a.block b (Za hb) (hx b (by simp[Yf,hc]))];exact hb,r⟩
theorem RT.push(o:Obj){x:Option Nat}:RT x h (h.push o):=⟨IQ,fun k hk _=>by rw[a3,if_neg pA]⟩
theorem RT.refl{x:Option Nat}:RT x h h:=⟨bx _,fun _ _ _=>rfl⟩
theorem UO.push(s:UO B E n h v m cs)(o:Obj):UO B E n (h.push o) v m cs:=
 s.mD (x:=U) (RT.push o) (fun _ _=>by simp)
theorem UO.Yz{C:Nat}(s:UO B E n h v m cs)(a:Zj C h h')(hC:h.size<=C):UO B E n h' v m cs:=
 s.mD (x:=U) ⟨a.size,fun b hb _=>a.block b pA⟩ (fun _ _=>by simp)
theorem UO.mono{B':Nat}(s:UO B E n h v m cs)(hB:B'<=B):UO B' E n h v m cs:=by
 rcases s with s|⟨b,cap,ZG,hb,r⟩
 .exact .inl s
 .exact .inr ⟨b,cap,ZG,pA,r⟩
section
variable {P:al} {T:am} {K:D->Hp->Prop} {F:Env} {h:Hp} {ty:O}
theorem YF(s:Sl n h v m cs){Q:Array D->Hp->Prop}(H:Q cs.toArray h):hw P (Builtin.firstCells n m v) Q h:=by
 obtain⟨p,cap,rfl,hl,hc⟩:=s
 cases p with
 | none=>
  have:cs=[]:=by
   cases cs with
   | nil=>rfl
   | cons x l=>obtain⟨b,o,hp,_⟩:=hc IQ;cases hp
  subst this;exact H
 | some a=>
  show hw P (loadCells a (m*n)) Q h;rw[<-hl];refine run_loadCells a cs _ 0 #[] (fun j hj=>?_) rfl (by simpa using H);obtain⟨b,o,hp,XL⟩:=hc (by intro e;subst e;simp at hj);simp only[Option.some.injEq]at hp;subst hp;rw[XR,ca,XL j hj];simp[hj]
theorem Sl.lenOf(s:Sl n h v m cs){Q:Nat->Hp->Prop}:hw P (Builtin.lenOf v) Q h=Q m h:=by
 obtain⟨p,cap,rfl,_,_⟩:=s;rfl
theorem Tp(l r vs:List D):Xd (l++r) (M l) vs=l++Xd r 0 vs:=by
 induction l with
 | nil=>simp
 | cons x l ih=>
  cases vs with
  | nil=>simp[Xd]
  | cons v vs=>simp only[cB,bf,Xd];rw[ih]
theorem UZ(r vs:List D)(h:(M vs)<=(M r)):Xd r 0 vs=vs++r.drop (M vs):=by
 induction vs generalizing r with
 | nil=>simp[Xd]
 | cons v vs ih=>
  cases r with
  | nil=>simp at h
  | cons x r=>simp only[Xd,cB,bf,co];rw[ih r (by simpa using h)]
theorem Xs(z:Array D)(n:Nat):(b3 z n).size=n*z.size:=by simp[b3]
theorem Tq(WJ cap bytes:Nat)(ZT:cap<WJ)(hb:WJ*bytes<=140737488355328):a8 WJ cap*bytes<=281474976710656:=by
 have g1:∀(r c:Nat),WJ<=c->be WJ r c=c:=by
  intro r c hc
  cases r with
  | zero=>rfl
  | succ r=>simp[be,hc]
 have g2:∀(r c:Nat),c<WJ->be WJ r c<=WJ+(WJ+768)/4:=by
  intro r
  induction r with
  | zero=>intro c hc;simp only[be];omega
  | succ r ih=>
   intro c hc;simp only[be];rw[if_neg pA];by_cases h2:c+(c+768)/4<WJ
   .exact ih _ h2
   .rw[g1 r _ pA];omega
 have key:a8 WJ cap<=2*WJ+192:=by
  unfold a8;split
  .omega
  .split
   .omega
   .have:=g2 4 cap ZT;omega
 have e1:a8 WJ cap*bytes<=(2*WJ+192)*bytes:=ba _ key;unfold a8;split
 .omega
 .rename_i h1;split
  .have:2*cap*bytes<=2*WJ*bytes:=ba _ pA;have e:2*WJ*bytes=2*(WJ*bytes):=by rw[Nat.mul_assoc]
   omega
  .rename_i h2;have hg:=g2 4 cap ZT;have h3:be WJ 4 cap*bytes<=(WJ+(WJ+768)/4)*bytes:=ba _ hg;have h4:(WJ+(WJ+768)/4)*bytes<=(2*WJ)*bytes:=ba _ pA;have e:2*WJ*bytes=2*(WJ*bytes):=by rw[Nat.mul_assoc]
   omega
theorem GN{sT xT E E' k bytes:Nat}{s:D}{news zs:List D}{cb:Array Bool}(VV:QY P sT=G E)(Bc:P.underlying xT=G (.slice E'))(hn:tn P E=G n)(hz:tz P E=G zs)(io:(M zs)=n)(O1:tb P E=G bytes)(Zq:UO B E n h v m cs)(hB:B<=h.size)(src:Sl n h s k news)(X3:news.all YE=true)(Xf:(m+k)*bytes<=140737488355328)(GO:1<=bytes)(H:∀v' h',UO B E n h' v' (m+k) (cs++news)->RT (Yf v) h h'->K v' h'):PZ P T .append #[sT,xT] ty cb [v,s] K h:=by
 unfold QY at VV;split at VV
 .rename_i e' hu;simp only[Option.some.injEq]at VV;subst VV;show hw P (do pure (.value (<-cc #[sT,xT] ty #[v,s]))) (JA P T K) h;rw[Zm];show hw P (cc #[sT,xT] ty #[v,s]) K h;obtain⟨i0,PQ⟩:∃i,P.info? e'=G i:=by
   unfold tn at hn
   cases hi:P.info? e' with
   | none=>rw[hi]at hn;cases hn
   | some i=>exact⟨i,rfl⟩
  have Mn:i0.bytes=bytes:=by unfold tb at O1;rw[PQ]at O1;simpa using O1
  obtain⟨z0,AN,iq⟩:∃z,i0.zero=G z/\z.cells.toList=zs:=by
   unfold tz at hz;rw[PQ]at hz
   cases Gc:i0.zero with
   | none=>rw[aw,Gc]at hz;cases hz
   | some z=>rw[aw,Gc]at hz;exact⟨z,rfl,by simpa using hz⟩
  have hvs:∃base cap,v=Z base m cap:=by
   rcases Zq with⟨⟨p,rfl⟩,rfl,_⟩|⟨b,cap,sp,_,rfl,_⟩
   .exact⟨_,_,rfl⟩
   .exact⟨_,_,rfl⟩
  obtain⟨base,cap,hv⟩:=hvs;subst hv;have qr:∀{Q:D->Hp->Prop} (g:Hp),hw P (zeroValue e') Q g=Q z0 g:=fun {Q} g=>by
   unfold zeroValue;rw[Zm,X8 PQ];simp only[AN];rfl
  simp only[cc,cg,b7,b8,Zm,ZO,ZH hu,ZH Bc,run_sizeOf hn,a4,if_false,src.lenOf,Bool.not_false,if_true];by_cases Jx:m+k<=cap
  .rw[if_pos Jx,Zm];refine YF src ?_;have VW:(M news)=k*n:=by obtain⟨_,_,_,hl,_⟩:=src;exact hl
   by_cases Y7:news=[]
   .subst Y7;have xO:hw P (match base with|some a=>(do storeCells (a.add (m*n)) [];pure (Value.slice base (m+k) cap))|none=>pure (Value.slice base (m+k) cap)) K h=K (Z base (m+k) cap) h:=by
     cases base<;>rfl
    have hK:K (Z base (m+k) cap) h:=by
     refine H _ _ ?_ RT.refl;rcases Zq with⟨⟨p,h1⟩,h2,h3⟩|⟨b,GP,ZG,Ge,h1,hb,hl,NV,vf⟩
     .simp only[Value.slice.injEq]at h1;obtain⟨rfl,rfl,rfl⟩:=h1;have hk:k=0:=pA;subst hk;subst h3;exact .inl ⟨⟨_,rfl⟩,rfl,rfl⟩
     .simp only[Value.slice.injEq]at h1;obtain⟨rfl,_,rfl⟩:=h1;have vg:k*n=0:=by simpa using VW.symm
      refine .inr ⟨b,cap,ZG,Ge,rfl,by simpa using hb,by rw[List.append_nil,hl,bl,vg];rfl,?_,Jx⟩;rw[NV,cO,cO,bl,vg,cv]
    cases base<;>exact hK
   rcases Zq with⟨⟨p,h1⟩,h2,h3⟩|⟨b,GP,ZG,Ge,h1,hb,hl,NV,vf⟩
   .simp only[Value.slice.injEq]at h1;obtain⟨rfl,rfl,rfl⟩:=h1;have hk:k=0:=pA;subst hk;exact (Y7 (a2 (by simpa using VW))).elim
   .simp only[Value.slice.injEq]at h1;obtain⟨rfl,_,rfl⟩:=h1;simp only[Zm,XR];have RV:(M news)<=(M ZG):=by rw[VW,NV];exact ba _ pA
    refine YZ (e:=e') (lo:=0) (hi:=0) rfl (bx _) news 0 h (cs++ZG).toArray hb ?_ X3 ?_
    .simp;rw[<-hl];omega
    .simp only[ZO,ca,cv];refine H _ _ (.inr ⟨b,cap,ZG.drop (M news),Ge,rfl,?_,?_,?_,Jx⟩) ⟨IQ,fun b' Qi hx=>?_⟩
     .rw[aN,if_pos rfl,if_pos (Za hb)];rw[<-hl,Tp,UZ _ _ RV,List.append_assoc]
     .rw[bk,hl,VW,bl]
     .rw[cz,NV,VW,<-cO];congr 1;omega
     .rw[aN,if_neg];intro e;subst e;have hcz:cap≠0:=by
       intro h0;subst h0;have:k=0:=pA;subst this;exact Y7 (a2 (by simpa using VW))
      exact hx (by simp[Yf,hcz])
  .rw[if_neg Jx];have Wx:¬a8 (m+k) cap*i0.bytes>2 ^ 48:=by
    rw[Mn];have:=Tq (m+k) cap bytes pA Xf;omega
   have iu:¬i0.bytes=0:=by rw[Mn];omega
   simp only[Zm,X8 PQ,iu,or_false,and_false,if_false,if_neg Wx];intro t;obtain⟨c,hc⟩:=ZL (Question.cut (Question.appendCap (m+k) cap e') t);have xP:m+k<=c:=by rw[hc];simp only[Question.cut];omega
   rw[<-hc];have T3:∀{Q:Unit->Hp->Prop} (b:Nat) (g:Hp),Q () g->hw P (askRoom b) Q g:=fun {Q} b g q=>by
    unfold askRoom;split<;>exact q
   refine T3 _ _ (YF Zq.sl (YF src ?_));rw[qr];have xQ:z0.cells.size=n:=by rw[<-io,<-iq];simp
   refine H (Z (G ⟨h.size,0,U⟩) (m+k) c) _ (.inr ⟨h.size,c,(b3 z0.cells (c-(m+k))).toList,hB,rfl,?_,?_,?_,xP⟩) (RT.push _)
   .rw[Array.getElem?_push_size];simp
   .have VW:(M news)=k*n:=by obtain⟨_,_,_,hl,_⟩:=src;exact hl
    have J9:(M cs)=m*n:=by obtain⟨_,_,_,hl,_⟩:=Zq.sl;exact hl
    rw[bk,J9,VW,bl]
   .rw[Array.length_toList,Xs,xQ]
 .cases VV
def bv(x:Nat):D:=.int .u8 x
structure Bs(h:Hp)(v:D)(l:List Nat):Prop where
 sl:Sl 1 h v (M l) (l.map bv)
 byte:∀x∈l,x<256
structure YB(B:Nat)(E:O)(h:Hp)(v:D)(l:List Nat):Prop where
 Zq:UO B E 1 h v (M l) (l.map bv)
 byte:∀x∈l,x<256
theorem YB.bs{l:List Nat}(s:YB B E h v l):Bs h v l:=⟨s.Zq.sl,s.byte⟩
theorem Bs.Yz{l:List Nat}(s:Bs h v l)(a:Zj h.size h h'):Bs h' v l:=⟨s.sl.Yz a,s.byte⟩
theorem YB.Yz{C:Nat}{l:List Nat}(s:YB B E h v l)(a:Zj C h h')(hC:h.size<=C):YB B E h' v l:=⟨s.Zq.Yz a hC,s.byte⟩
theorem YB.mono{B':Nat}{l:List Nat}(s:YB B E h v l)(hB:B'<=B):YB B' E h v l:=⟨s.Zq.mono hB,s.byte⟩
theorem YB.push{l:List Nat}(s:YB B E h v l)(o:Obj):YB B E (h.push o) v l:=⟨s.Zq.push o,s.byte⟩
theorem YB.nil(B:Nat)(E:O)(h:Hp):YB B E h (Z U 0 0) []:=⟨UO.nil B E 1 h,fun _ h=>by cases h⟩
theorem RW(l:List Nat):(l.map bv).all YE=true:=by simp[bv,YE]
theorem Bs.open{l:List Nat}(s:Bs h v l):∃p cap,v=Z p (M l) cap/\(l≠[]->∃b o,p=G ⟨b,o,U⟩/\b<h.size/\∀i (hi:i<(M l)),hc h ⟨b,o+i,U⟩=G (.int .u8 (l[i]:Nat))):=by
 obtain⟨⟨p,cap,hv,_,hc⟩,_⟩:=s;refine⟨p,cap,hv,fun Y7=>?_⟩;obtain⟨b,o,hp,XL⟩:=hc (by simpa using Y7);refine⟨b,o,hp,?_,fun i hi=>?_⟩
 .exact Vj (XL 0 (by simpa using bB.2 Y7))
 .have:=XL i (by simpa using hi)
  simpa [bv] using this
end
attribute [go_sem] Zcy Zgs Zcz Zgt ZcA wy pN ZcB ZcC wq wu pM ww gI wm gF gH ai wh
 Sf Zgz wP pS ZcI pG Zr pT ZcJ HE Ww gP pU cl pV pW DG GH wU gQ aq C8 ET
 GJ gS ar GK gT au ZcL pZ qc GL C9 qd gU
 wX wZ xd xe xf xh ZcM xj av xm xo xp xq xr xt xu xw ZcN ZcO ZcP qe ax
 qg qh Ba EU ZcR ZcS wF gJ gK ak Zgu ZcD ve wG gL wI gM wJ pO gN pP an Zgv ZcF pQ pR ao GG ZcG C7 ZcH Zgx wM Zgy Mo
 Gz QW Mj a1 aw Option.isSome_some decide_eq_true_eq decide_eq_false_iff_not
attribute [go_sem] qk gX ay qm EV gY Bb hO GM EW hU az qn xz ib xC ZcT ZgA ic ie ig ii ij xH ik xI xK
 xM qo ZcU ZcV ZcW qp ZgB O9 mC il xN ZcX gv my nth Xd gx H9 YE List.toList_toArray bf cS co List.drop_zero List.take_succ_cons List.take_zero cq cr
 bw List.all_nil Bool.and_true bh ca List.take_nil List.drop_nil
def vi:D->Int|.int _ n=>n|_=>0
theorem Y8(l:List α)(i:Nat)(hi:i<(M l)):l.take (i+1)=l.take i++[l[i]]:=List.take_succ_eq_append_getElem hi
def w64(n:Int):Int:=IntKind.i64.wrap n
theorem iw(n:Int):IntKind.i64.wrap n=if -9223372036854775808<=n/\n<=9223372036854775807 then n else w64 n:=by
 split
 .rename_i h;exact cn n h
 .rfl
theorem aB(n:Int):IntKind.u8.wrap n=n%256:=by simp[IntKind.wrap,IntKind.bits,IntKind.signed]
theorem Li(n:Int):IntKind.u32.wrap n=n%4294967296:=by simp[IntKind.wrap,IntKind.bits,IntKind.signed]
theorem Lj(n:Int):IntKind.u64.wrap n=n%18446744073709551616:=by simp[IntKind.wrap,IntKind.bits,IntKind.signed]
attribute [go_sem] iw aB Li Lj true_and and_true ne_eq not_true_eq_false not_false_eq_true decide_true decide_false Bool.false_eq_true Int.toNat_natCast Nat.mul_one
theorem Ky(w a:Nat):BitVec.ofInt w (a:Int)=BitVec.ofNat w a:=by
 apply BitVec.eq_of_toNat_eq;simp[BitVec.toNat_ofNat]
theorem Rg(k:IntKind)(n:Nat)(h:n<2 ^ (if k.signed then k.bits-1 else k.bits)):k.wrap (n:Int)=n:=by
 cases k<;>simp[IntKind.wrap,IntKind.bits,IntKind.signed]at h ⊢<;>omega
theorem Na(k:IntKind)(a b:Nat)(ha:a<2 ^ (if k.signed then k.bits-1 else k.bits))(hb:b<2 ^ (if k.signed then k.bits-1 else k.bits)):YO .and k a b=((a &&& b:Nat):Int):=by
 have hle:2 ^ (if k.signed then k.bits-1 else k.bits)<=2 ^ k.bits:=bz pA (by split<;>omega);simp only[YO,Ky];rw[BitVec.toNat_and,BitVec.toNat_ofNat,BitVec.toNat_ofNat,a9 pA,a9 pA];exact Rg k _ (Nat.lt_of_le_of_lt Nat.and_le_left ha)
theorem Lk(k:IntKind)(a b:Nat)(ha:a<2 ^ (if k.signed then k.bits-1 else k.bits))(hb:b<2 ^ (if k.signed then k.bits-1 else k.bits)):YO .or k a b=((a ||| b:Nat):Int):=by
 have hle:2 ^ (if k.signed then k.bits-1 else k.bits)<=2 ^ k.bits:=bz pA (by split<;>omega);simp only[YO,Ky];rw[BitVec.toNat_or,BitVec.toNat_ofNat,BitVec.toNat_ofNat,a9 pA,a9 pA];exact Rg k _ (Nat.or_lt_two_pow ha hb)
theorem DH(k:IntKind)(a b:Nat)(ha:a<2 ^ (if k.signed then k.bits-1 else k.bits))(hb:b<2 ^ (if k.signed then k.bits-1 else k.bits)):YO .xor k a b=((a ^^^ b:Nat):Int):=by
 have hle:2 ^ (if k.signed then k.bits-1 else k.bits)<=2 ^ k.bits:=bz pA (by split<;>omega);simp only[YO,Ky];rw[BitVec.toNat_xor,BitVec.toNat_ofNat,BitVec.toNat_ofNat,a9 pA,a9 pA];exact Rg k _ (Nat.xor_lt_two_pow ha hb)
theorem xS(a b:Nat)(ha:a<256)(hb:b<256):YO .and .u8 a b=((a &&& b:Nat):Int):=Na .u8 a b ha hb
theorem Zkj(a b:Nat)(ha:a<256)(hb:b<256):YO .or .u8 a b=((a ||| b:Nat):Int):=Lk .u8 a b ha hb
theorem Bd(a b:Nat)(ha:a<256)(hb:b<256):YO .xor .u8 a b=((a ^^^ b:Nat):Int):=DH .u8 a b ha hb
theorem Ll(a b:Nat)(ha:a<4294967296)(hb:b<4294967296):YO .and .u32 a b=((a &&& b:Nat):Int):=Na .u32 a b ha hb
theorem Og(a b:Nat)(ha:a<4294967296)(hb:b<4294967296):YO .or .u32 a b=((a ||| b:Nat):Int):=Lk .u32 a b ha hb
theorem Uo(a b:Nat)(ha:a<4294967296)(hb:b<4294967296):YO .xor .u32 a b=((a ^^^ b:Nat):Int):=DH .u32 a b ha hb
theorem ZcY(a b:Nat)(ha:a<18446744073709551616)(hb:b<18446744073709551616):YO .and .u64 a b=((a &&& b:Nat):Int):=Na .u64 a b ha hb
theorem ix(a b:Nat)(ha:a<18446744073709551616)(hb:b<18446744073709551616):YO .or .u64 a b=((a ||| b:Nat):Int):=Lk .u64 a b ha hb
theorem ZcZ(a b:Nat)(ha:a<9223372036854775808)(hb:b<9223372036854775808):YO .and .i64 a b=((a &&& b:Nat):Int):=Na .i64 a b ha hb
theorem Mp(a b:Nat)(ha:a<9223372036854775808)(hb:b<9223372036854775808):YO .or .i64 a b=((a ||| b:Nat):Int):=Lk .i64 a b ha hb
theorem Nb(k:IntKind)(a n:Nat)(hn:n<=k.bits):XF k a n=((a >>> n:Nat):Int):=by
 simp only[XF,cy,cT hn];rw[Int.fdiv_eq_ediv_of_nonneg _ (Int.le_of_lt (Int.pow_pos pA)),Nat.shiftRight_eq_div_pow];simp
theorem Be(k:IntKind)(a n:Nat)(hn:n<=k.bits):Xr k a n=k.wrap ((a*2 ^ n:Nat):Int):=by
 simp only[Xr,cy,cT hn];simp
theorem Bf(a b:Nat):a ^^^ b=0↔a=b:=by
 constructor
 .intro h;have h2:a ^^^ b ^^^ b=0 ^^^ b:=by rw[h]
  rwa [Nat.xor_assoc,Nat.xor_self,Nat.xor_zero,Nat.zero_xor]at h2
 .intro h;subst h;exact Nat.xor_self a
theorem aC(a b:Nat):a ||| b=0↔a=0/\b=0:=by
 simp
open Go.ChangeShapes Go.WideShapes Go.ChangeAt Go.RowKit
def fit(P:al)(h:Hp):Nat->O->List D->Prop
 | 0,_,_=>False
 | k+1,t,cs=>
  match P.underlying t with
  | some .bool=>∃b,cs=[aa b]
  | some (.int i)=>∃n,cs=[.int i n]/\(Lit.int i n).wf=true
  | some .string=>∃s,cs=[.string s]/\s.size<=reachBytes
  | some (.slice e)=>∃p len cap,cs=[Z p len cap]/\len<=cap/\cap*P.bytesOf e<=reachBytes /\
    (len≠0->P.cellsOf e≠0->∃b o,p=G ⟨b,o,U⟩/\b<h.size/\∀i,i<len->∃ds,(M ds)=P.cellsOf e/\X6 h b (o+i*P.cellsOf e) ds/\fit P h k e ds)
  | some (.struct fs)=>(M cs)=P.cellsOf t/\∀f∈fs.toList,fit P h k f.type ((cs.drop f.offset).take (P.cellsOf f.type))
  | some (.array n e)=>(M cs)=P.cellsOf t/\∀i,i<n->fit P h k e ((cs.drop (i*P.cellsOf e)).take (P.cellsOf e))
  | _=>True
def EY(P:al)(h:Hp)(k:Nat)(t:O)(v:D):Prop:=
 match ta P t with
 | some true=>∃cs:List D,v=a0 cs.toArray/\fit P h k t cs
 | _=>fit P h k t [v]
def fitAll(P:al)(h:Hp):List O->List D->Prop
 | [],[]=>True
 | t :: ts,v :: vs=>(∃k,EY P h k t v)/\fitAll P h ts vs
 | _,_=>False
theorem Rh{β:Type}{f:α->Option β}:∀{l:List α} {r:List β},l.mapM f=G r->(M r)=(M l)/\∀(i:Nat) (x:α) (y:β),l[i]? = G x->r[i]? = G y->f x=G y
 | [],r,h=>by
  simp only[cZ,pure,Option.some.injEq]at h;subst h;exact⟨rfl,fun i x y hx _=>by simp at hx⟩
 | a :: l,r,h=>by
  rw[bR]at h
  cases ha:f a with
  | none=>rw[ha]at h;cases h
  | some b=>
   rw[ha]at h
   cases hl:l.mapM f with
   | none=>simp[hl]at h
   | some bs=>
    simp[hl]at h;subst h;obtain⟨h1,h2⟩:=Rh hl;refine⟨by simp[h1],fun i x y hx hy=>?_⟩
    cases i with
    | zero=>simp at hx hy;subst hx;subst hy;exact ha
    | succ i=>simp at hx hy;exact h2 i x y hx hy
theorem GQ{w:am}{base:Nat}{ds:List D}(h:w.cells? base a n=G ds):(M ds)=n/\∀i (hi:i<(M ds)),w.cell? (a.add i)=G ds[i]:=by
 unfold World.cells? at h;split at h
 .obtain⟨h1,h2⟩:=Rh h;rw[b4]at h1;refine⟨h1,fun i hi=>h2 i i ds[i] ?_ ?_⟩
  .rw[bG pA]
  .exact a7 hi
 .cases h
theorem qs{w:am}(h:w.cell? (a.add i)=G v)(hi:i=0):a.spot=U:=by
 subst hi;have e:a.add 0=a:=by simp[Addr.add]
 rw[e]at h;unfold World.cell? at h;split at h
 .split at h
  .cases h
  .rename_i hs;simpa using hs
 .cases h
theorem PH{H:Type}{q:Nat->Bool}:∀(ts:List O) (ds:List (DataW H)),(DataW.weightsEach P ts ds).all q=true->∀(i:Nat) (t:O) (d:DataW H),ts[i]? = G t->ds[i]? = G d->(d.weights P t).all q=true
 | [],_,_,i,t,d,ht,_=>by simp at ht
 | t :: ts,[],_,i,t',d,_,hd=>by simp at hd
 | t :: ts,d :: ds,h,i,t',d',ht,hd=>by
  simp only[DataW.weightsEach,bA,aO]at h
  cases i with
  | zero=>simp at ht hd;subst ht;subst hd;exact h.1
  | succ i=>simp at ht hd;exact PH ts ds h.2 i t' d' ht hd
theorem Tt{H:Type}{q:Nat->Bool}:∀(ds:List (DataW H)),(DataW.weightsAll P e ds).all q=true->∀(i:Nat) (d:DataW H),ds[i]? = G d->(d.weights P e).all q=true
 | [],_,i,d,hd=>by simp at hd
 | d :: ds,h,i,d',hd=>by
  simp only[DataW.weightsAll,bA,aO]at h
  cases i with
  | zero=>simp at hd;subst hd;exact h.1
  | succ i=>simp at hd;exact Tt ds h.2 i d' hd
theorem Sg{H:Type}{enc:O × D->H}{w:am}:∀(k:Nat) (t:O) (cs:List D) (d:DataW H) (ps:List MemPlace),
  DataW.trod enc P w 0 (fun _=>true) true k t cs=G (d,ps)->(d.weights P t).all (· <= reachBytes)=true->fit P w.heap k t cs
 | 0,t,cs,d,ps,h,_=>by simp[DataW.trod]at h
 | k+1,t,cs,d,ps,h,hw=>by
  unfold DataW.trod at h;unfold fit;split at h
  .rename_i hu;rw[hu];exact⟨_,rfl⟩
  .rename_i i i' n hu;rw[hu];split at h
   .rename_i hc;obtain⟨rfl,hc⟩:=hc;exact⟨_,rfl,hc⟩
   .cases h
  .rename_i hu;rw[hu];trivial
  .rename_i s hu;rw[hu];split at h
   .simp only[Option.some.injEq,Prod.mk.injEq]at h;obtain⟨rfl,_⟩:=h;refine⟨_,rfl,?_⟩
    simpa [DataW.weights] using hw
   .cases h
  .rename_i hu;rw[hu];trivial
  .rename_i hu;rw[hu];trivial
  .rename_i e hu;rw[hu];exact⟨_,_,_,rfl,bx _,IQ,fun h=>(h rfl).elim⟩
  .rename_i e a len cap hu;rw[hu];split at h
   .rename_i Le;simp only[if_true]at h
    cases he:((bo len).mapM fun i=>(w.cells? 0 (a.add (i*P.cellsOf e)) (P.cellsOf e)).bind (DataW.trod enc P w 0 (fun _=>true) true k e)) with
    | none=>rw[he]at h;cases h
    | some elems=>
     rw[he]at h;simp only[aw]at h
     cases hr:((bo (cap-len)).mapM fun j=>(w.cells? 0 (a.add ((len+j)*P.cellsOf e)) (P.cellsOf e)).bind (DataW.trod enc P w 0 (fun _=>true) true k e)) with
     | none=>rw[hr]at h;cases h
     | some rest=>
      rw[hr]at h;simp only[a1,Option.some.injEq,Prod.mk.injEq]at h;obtain⟨rfl,_⟩:=h;obtain⟨l1,g1⟩:=Rh he;obtain⟨l2,_⟩:=Rh hr;rw[b4]at l1 l2;simp only[DataW.weights,hu,bw,bA,aO,List.length_map,decide_eq_true_eq]at hw;refine⟨_,_,_,rfl,Le.2.1,?_,fun hlen hce=>?_⟩
      .have:(M elems)+(M rest)=cap:=pA;rw[<-this];exact hw.1
      .have Zkk:∀i,i<len->∃ds x,w.cells? 0 (a.add (i*P.cellsOf e)) (P.cellsOf e)=G ds/\elems[i]? = G x/\DataW.trod enc P w 0 (fun _=>true) true k e ds=G x:=by
        intro i hi;have hx:elems[i]? = G elems[i]:=a7 pA;have:=g1 i i elems[i] (by rw[bG hi]) hx
        cases hc:w.cells? 0 (a.add (i*P.cellsOf e)) (P.cellsOf e) with
        | none=>rw[hc]at this;cases this
        | some ds=>rw[hc]at this;exact⟨ds,_,rfl,hx,this⟩
       obtain⟨ds0,x0,mE,_,_⟩:=Zkk 0 pA;obtain⟨q1,q2⟩:=GQ mE;have e0:a.add (0*P.cellsOf e)=a:=by simp[Addr.add]
       rw[e0]at q2;have NV:a.spot=U:=qs (q2 0 pA) rfl;have ZgD:w.cell? a=G ds0[0]:=by have:=q2 0 pA;simpa [Addr.add] using this
       have ZT:a.block<w.heap.size:=Vj (h:=w.heap) (p:=a) (v:=ds0[0]) ZgD;refine⟨a.block,a.off,?_,ZT,fun i hi=>?_⟩
       .obtain⟨b,o,s⟩:=a;simp only at NV;subst NV;rfl
       .obtain⟨ds,x,hc,hx,ht⟩:=Zkk i hi;obtain⟨r1,r2⟩:=GQ hc;refine⟨ds,r1,fun j hj=>?_,?_⟩
        .have:=r2 j hj;rw[O0 a _ NV,XR]at this;exact this
        .refine Sg k e ds x.1 x.2 ht ?_;exact Tt _ hw.2.1 i x.1 (by rw[bn,hx];rfl)
   .cases h
  .rename_i cs _ _ fs hu;rw[hu];split at h
   .rename_i hlen
    cases hm:(fs.toList.mapM fun f=>DataW.trod enc P w 0 (fun _=>true) true k f.type ((cs.drop f.offset).take (P.cellsOf f.type))) with
    | none=>rw[hm]at h;cases h
    | some xs=>
     rw[hm]at h;simp only[a1,Option.some.injEq,Prod.mk.injEq]at h;obtain⟨rfl,_⟩:=h;obtain⟨l1,g1⟩:=Rh hm;refine⟨hlen,fun f hf=>?_⟩;obtain⟨i,hi,ab⟩:=List.mem_iff_getElem.1 hf;have hx:xs[i]? = G xs[i]:=a7 pA;have Zkl:fs.toList[i]? = G f:=by rw[a7 hi,ab]
     refine Sg k _ _ xs[i].1 xs[i].2 (g1 i f xs[i] Zkl hx) ?_;simp only[DataW.weights,hu]at hw;exact PH _ _ hw i f.type xs[i].1 (by rw[bn,Zkl];rfl) (by rw[bn,hx];rfl)
   .cases h
  .rename_i cs _ _ n e hu;rw[hu];split at h
   .rename_i hlen
    cases hm:((bo n).mapM fun i=>DataW.trod enc P w 0 (fun _=>true) true k e ((cs.drop (i*P.cellsOf e)).take (P.cellsOf e))) with
    | none=>rw[hm]at h;cases h
    | some xs=>
     rw[hm]at h;simp only[a1,Option.some.injEq,Prod.mk.injEq]at h;obtain⟨rfl,_⟩:=h;obtain⟨l1,g1⟩:=Rh hm;rw[b4]at l1;refine⟨hlen,fun i hi=>?_⟩;have hx:xs[i]? = G xs[i]:=a7 pA;refine Sg k _ _ xs[i].1 xs[i].2 (g1 i i xs[i] (by rw[bG hi]) hx) ?_;simp only[DataW.weights,hu]at hw;exact Tt _ hw i xs[i].1 (by rw[bn,hx];rfl)
   .cases h
  all_goals first|(cases h;done)|(rename_i hu;rw[hu];trivial)
theorem Zc0{w:am}{r:Reach}{base:Nat}{cs:Array D}(ha:ta P t=G false)(h:Value.okWide P w r base t (a0 cs)):False:=by
 unfold ta at ha;unfold Value.okWide at h
 cases hu:P.underlying t with
 | none=>rw[hu]at ha;cases ha
 | some d=>
  rw[hu]at ha h
  cases d<;>simp at ha<;>simp[Cell.okWide,Cell.ok,hu]at h
theorem Zc1{H:Type}{enc:O × D->H}{w:am}{r:Reach}{base:Nat}{d:DataW H}{ps:List MemPlace}(fV:(ta P t).isSome=true)(Um:Value.okWide P w r base t v)(h:DataW.Trod enc P w 0 (fun _=>true) true t v d ps)(hw:(d.weights P t).all (· <= reachBytes)=true):∃k,EY P w.heap k t v:=by
 obtain⟨k,hk⟩:=h;have hf:=Sg k t _ d ps hk hw;refine⟨k,?_⟩;unfold EY
 cases ha:ta P t with
 | none=>rw[ha]at fV;cases fV
 | some b=>
  cases b with
  | true=>
   unfold ta at ha;unfold Value.okWide at Um
   cases hu:P.underlying t with
   | none=>rw[hu]at ha;cases ha
   | some d'=>
    rw[hu]at ha Um;have:∃cs,v=a0 cs:=by
     cases d'<;>simp at ha<;>(obtain⟨cs,hv,_⟩:=Um;exact⟨cs,hv⟩)
    obtain⟨cs,rfl⟩:=this;exact⟨cs.toList,IQ,hf⟩
  | false=>
   have:v.cells.toList=[v]:=by
    cases v with
    | agg cs=>exact (Zc0 ha Um).elim
    | _=>rfl
   rw[this]at hf;exact hf
theorem DI{H:Type}{enc:O × D->H}{w:am}{base:Nat}:∀(ts:List O) (vs:List D) (ds:List (DataW H)) (ps:List MemPlace),
  ts.all (fun t=>(ta P t).isSome)=true->(∀(j:Nat) t v,ts[j]? = G t->vs[j]? = G v->Value.okWide P w .any base t v)->DataW.TrodAll enc P w 0 (fun _=>true) true ts vs ds ps ->
  (DataW.weightsEach P ts ds).all (· <= reachBytes)=true->fitAll P w.heap ts vs
 | [],vs,ds,ps,_,_,h,_=>by
  obtain⟨rfl,rfl,rfl⟩:=trodAll_nil h;trivial
 | t :: ts,vs,ds,ps,ha,hv,h,hw=>by
  obtain⟨v,vs',d,ds',p,q,rfl,rfl,rfl,h1,h2⟩:=trodAll_cons h;simp only[bw,aO]at ha;simp only[DataW.weightsEach,bA,aO]at hw;exact⟨Zc1 ha.1 (hv 0 t v rfl rfl) h1 hw.1,DI ts vs' ds' q ha.2 (fun j t v ht aD=>hv (j+1) t v ht aD) h2 hw.2⟩
theorem NW{H:Type}{enc:O × D->H}(hl:laidOutB P=true){W W':am}(hb:Below W.heap.size W W'):∀(ts:List O) (vs:List D) (ds:List (DataW H)) (ps:List MemPlace),
  ts.all (fun t=>P.readableRec t&&decide (t<P.types.size))=true->DataW.TrodAll enc P W 0 (fun _=>true) true ts vs ds ps->(∀x∈ps,x.block<W.heap.size) ->
  DataW.TrodAll enc P W' 0 (fun b=>decide (b<W.heap.size)) true ts vs ds ps
 | [],vs,ds,ps,_,h,_=>by
  obtain⟨rfl,rfl,rfl⟩:=trodAll_nil h;rfl
 | t :: ts,vs,ds,ps,ha,h,ZT=>by
  obtain⟨v,vs',d,ds',p,q,rfl,rfl,rfl,h1,h2⟩:=trodAll_cons h;simp only[bw,aO,decide_eq_true_eq]at ha;exact⟨p,q,Below.trod hl ha.1.1 ha.1.2 h1 hb (fun x hx=>ZT x (by simp[hx])),NW hl hb ts vs' ds' q ha.2 h2 (fun x hx=>ZT x (by simp[hx])),rfl⟩
theorem Oh{H:Type}{enc:O × D->H}{w:am}{sp:Nat->Bool}{hd:Bool}:∀(ts:List O) (vs:List D) (ds:List (DataW H)) (ps:List MemPlace),DataW.TrodAll enc P w b sp hd ts vs ds ps->(M ds)=(M ts)
 | [],vs,ds,ps,h=>by obtain⟨rfl,rfl,rfl⟩:=trodAll_nil h;rfl
 | t :: ts,vs,ds,ps,h=>by
  obtain⟨v,vs',d,ds',p,q,rfl,rfl,rfl,h1,h2⟩:=trodAll_cons h;simp[Oh ts vs' ds' q h2]
theorem xV{W W':am}(hs:SI W W' h')(hb:Zj W.heap.size W.heap h'):Below W.heap.size W W':=
 ⟨hs.os,hs.tape,hs.output,by rw[hs.heap];exact hb.size,fun k hk=>by rw[hs.heap];exact hb.block k hk⟩
theorem xW{rest:List (List Char)}(h:behindMainWord (wordsSigns P.initOrder.toList) = "cut".toList :: rest):P.make=G .cut:=by
 unfold Program.make;rw[h];simp only;rw[if_neg aaa,if_pos (by rfl)]
theorem DJ(rest:List (List Char)):stripLifts liftWords ("cut".toList :: rest)=([], "cut".toList :: rest):=by rfl
theorem qt{rest:List (List Char)}(h:behindMainWord (wordsSigns P.initOrder.toList) = "cut".toList :: rest):P.liftsFinal=false:=by
 unfold Program.liftsFinal Program.headLifts;rw[h,DJ];rfl
theorem qu{rest:List (List Char)}(h:behindMainWord (wordsSigns P.initOrder.toList) = "cut".toList :: rest)(h1:P.laysLater=false)(h2:P.bearsReflect=false)(h3:P.doorFits []=true):P.mayEnter=true:=by
 unfold Program.mayEnter;rw[h];simp only[DJ,h1,h2,h3];rw[Bool.or_eq_true];exact .inr rfl
theorem qv{L:List Char}(h:P.initOrder=String.ofList L)(h2:((behindMainWord (wordsSigns L)).head? == G "cut".toList)=true):∃rest,behindMainWord (wordsSigns P.initOrder.toList) = "cut".toList :: rest:=by
 rw[h,String.toList_ofList]
 revert h2
 cases behindMainWord (wordsSigns L) with
 | nil=>intro h;cases h
 | cons a l=>
  intro h;have h':a = "cut".toList:=by
   have:=eq_of_beq h
   simpa using this
  exact⟨l,by rw[h']⟩
attribute [go_sem ↓] reduceIte
end Go.V
