/- Part V9. -/
import Derived.Calls
import Derived.OrdersHeld
import Derived.Still
import Derived.Tactics
import Derived.Laws.Sem
import Derived.KernelRfl
import Derived.IntWalk
import Derived.Laws.Strings
import Derived.WalkKit
import Derived.ProofKit
import Derived.OpenShut
import Derived.SizedLaws
import Derived.JoinedCond
import Derived.Deep.CondSized
import Derived.Carry
open Go.Value renaming pointer→J,slice→Z,bool→ak,agg→aw
open Go.Obj renaming cells→Y
open List renaming length→M,eq_nil_of_length_eq_zero→aI,getElem?_eq_getElem→a1,length_cons→a9,length_append→bc,getElem?_map→bf,range→bg,all_cons→bk,all_append→bo,length_pos_iff→bp,getElem?_range→br,mapM_cons→bx,getD_eq_getElem?_getD→bA,getElem?_append_left→bD,length_range→bS,all_eq_true→b0,getElem?_cons_zero→b2,getElem?_cons_succ→b3,getElem?_toArray→b9,drop_succ_cons→cf,set_cons_zero→ck,set_cons_succ→cn,mapM_toArray→cp,size_toArray→ct,length_drop→cv,cons_append→cx,range'→cz,length_nil→cF,mapM_nil→cS,map_cons→cT
open Nat renaming mod_eq_of_lt→a3,mul_le_mul_right→a4,add_mul→bd,le_refl→bl,pow_le_pow_right→bn,zero_add→b5,add_assoc→cg,add_zero→cq,add_comm→cr,sub_mul→cA,min_eq_left→cP,ble→cZ
open Int renaming toNat_natCast→cu
open Option renaming bind_some→am,map_some→aF,isSome_none→bz,some→G,none→U
open Array renaming getElem?_setIfInBounds→an,getElem?_push→aK,getElem?_eq_some_iff→aX,ext_getElem?→a6,toList_setIfInBounds→a7,getElem?_eq_getElem→ba,size_push→bb,toList_map→bh,getD_eq_getD_getElem?→bw,range→bG,toList_inj→b1,getElem?_eq_none→b4,mem_of_getElem?→b7,getElem?_toList→b8,toArray_toList→cc,replicate→cC,zipIdx→c0
open Bool renaming and_eq_true→au,false_eq_true→aU
open Go.IntWalk renaming i64_in→cd
open Go.Builtin renaming nextslicecap→a2,growBy→a8,zeroCells→bR,append_→b6,len_→c1
open Go.Region renaming ready→a5,wanted→bj,noSelect_spec→ca,binds→co,free_spec→cw,noSelect→cB
open Go renaming Value→D,TypeId→O,Program→aa,World→al,Operand→a0
namespace Go.V
theorem mD{p:Prop}(h:p:=by omega):p:=h
theorem sV{p:Prop}(h:p:=by kernel_rfl):p:=h
theorem sW{p:Prop}(h:p:=by simp):p:=h
theorem tP{p:Prop}(h:p:=by intro e;cases e):p:=h
theorem vI{p:Prop}(h:p:=by simp;omega):p:=h
theorem IX{p:Prop}(h:p:=by first|omega|(simp;omega)):p:=h
theorem KC{p:Prop}(h:p:=by decide):p:=h
theorem KO{p:Prop}(h:p:=by assumption):p:=h
theorem aaa{p:Prop}(h:p:=by rw[List.length_take];omega):p:=h
theorem aab{p:Prop}(h:p:=by rw[cv];omega):p:=h
theorem aac{p:Prop}(h:p:=by simp only[aK,bb,IntWalk.iteOmega,↓reduceIte]):p:=h
theorem aad{p:Prop}(h:p:=by simp only[bb];omega):p:=h
theorem aae{p:Prop}(h:p:=by rw[bc];omega):p:=h
theorem aaf{p:Prop}(h:p:=by simp only[List.length_singleton];omega):p:=h
theorem aag{p:Prop}(h:p:=by intro q;cases q):p:=h
variable{B b cap i len m n o:Nat}{E e t:O}{P:aa}{a:Addr}{cs l:List D}{d:Option Tmp}{k:IntKind}{lo:Option D}{ops:List Oper}{parts:List (Nat × D)}{place:Nat->Option (Nat × Nat)}{v:D}{x y:a0}{α:Type}
theorem ZP(x:α):∃y,y=x:=⟨x,rfl⟩
abbrev Env:=Nat->D
def upd(F:Env)(d:Nat)(v:D):Env:=fun t=>if t=d then v else F t
def YG(F:Env):Option Nat->D->Env
 | none,_=>F
 | some d,v=>upd F d v
def ev(F:Env):a0->D
 | .tmp t=>F t
 | .const v=>v
 | .global g=>J (G ⟨g,0,U⟩)
 | .func f=>.func (.func f) #[] #[]
def IH:List D->Nat->Env
 | [],_=>fun _=>undef
 | v :: l,k=>upd (IH l (k+1)) k v
def env(a:Act):Env:=fun t=>a.tmps.getD t undef
theorem BK(a:Act):a.eval=ev (env a):=by
 funext x;cases x<;>rfl
theorem IZ(a:Act)(dst:Option Nat)(v:D)(h:∀d,dst=G d->d<a.tmps.size):env (a.put dst v)=YG (env a) dst v:=by
 cases dst with
 | none=>rfl
 | some d=>
  funext t
  have hd:=h d rfl;simp only[env,Act.put,YG,upd,bw,an];by_cases htd:d=t
  .subst htd;simp[hd]
  .rw[if_neg htd,if_neg (fun h=>htd h.symm)]
theorem Mu(a:Act)(dst:Option Nat)(v:D):(a.put dst v).tmps.size=a.tmps.size:=by
 cases dst<;>simp[Act.put]
abbrev Hp:=Array Obj
variable{N:Env->Hp->Prop}{Q:D->Hp->Prop}{h h':Hp}
structure Sg(T:al)(w:al)(h:Hp):Prop where
 heap:w.heap=h
 tape:w.tape=T.tape
 os:w.os=T.os
 output:w.output=T.output
def hc(h:Hp)(a:Addr):Option D:=
 match h[a.block]? with
 | some (Y c _ _)=>if a.spot.isSome then U else c[a.off]?
 | _=>U
def VO(h:Hp)(r:Nat):Option (O × Nat):=
 match h[r]? with
 | some (Y c elem _)=>G (elem,c.size)
 | _=>U
def j2(h:Hp)(a:Addr):Bool:=
 match h[a.block]? with
 | some (Y _ _ (lo,hi))=>lo<=a.off&&a.off<hi
 | _=>false
def mE(h:Hp)(a:Addr)(v:D):Hp:=
 h.modify a.block fun
  | Y c elem frozen=>Y (if a.spot.isSome then c else c.setIfInBounds a.off v) elem frozen
  | o=>o
def Rq(h:Hp)(a:Addr)(n:Nat):Hp:=
 if n=0 then h else
 h.modify a.block fun
  | Y c elem (lo,hi)=>Y c elem (if lo == hi then (a.off,a.off+n) else (min lo a.off,max hi (a.off+n)))
  | o=>o
def I0:Obj->Bool
 | .cells .. => true
 | _=>false
def YN:D->Bool
 | aw _|.tuple _=>false
 | _=>true
def hw{α:Type}(P:aa):Sem α->(α->Hp->Prop)->Hp->Prop
 | .pure a,Q,h=>Q a h
 | .load _ a k,Q,h=>∃v,hc h a=G v/\hw P (k v) Q h
 | .store _ a v k,Q,h=>YN v=true/\(∃u,hc h a=G u)/\j2 h a=false/\hw P k Q (mE h a v)
 | .new o k,Q,h=>hw P (k h.size) Q (h.push o)
 | .shape r k,Q,h=>hw P (k (VO h r)) Q h
 | .freeze a n k,Q,h=>hw P k Q (Rq h a n)
 | .frozen a k,Q,h=>hw P (k (j2 h a)) Q h
 | .getObj r k,Q,h=>∃o,h[r]? = G o/\I0 o=false/\hw P (k o) Q h
 | .setObj r o k,Q,h=>(∃o',h[r]? = G o'/\I0 o'=false)/\hw P k Q (h.setIfInBounds r o)
 | .choose q k,Q,h=>if q.forced then hw P (k 0) Q h else ∀t,hw P (k (q.cut t)) Q h
 | .sys _ _,_,_=>False
 | .program k,Q,h=>hw P (k P) Q h
 | .mark _ k,Q,h=>hw P k Q h
 | .halt _,_,_=>False
theorem tT{T:al}:∀(s:Sem α) (Q:α->Hp->Prop) (h:Hp),hw P s Q h->∀w,Sg T w h ->
  ∃a w' h',s.run P w=.ok a w'/\Sg T w' h'/\Q a h':=by
 intro s
 induction s with
 | pure a=>intro Q h H w hs;exact⟨a,w,h,rfl,hs,H⟩
 | load m a k ih=>
  intro Q h H w hs;obtain⟨v,hv,H⟩:=H;obtain⟨a',w',h',hr,r⟩:=ih v Q h H w hs;refine⟨a',w',h',?_,r⟩;have:w.cell? a=G v:=by rw[World.cell?,hs.heap];exact hv
  rw[Sem.run,this];exact hr
 | store m a v k ih=>
  intro Q h H w hs;obtain⟨h1,⟨u,h2⟩,h3,H⟩:=H;have LN:Sg T (w.setCell a v) (mE h a v):=⟨by simp only[World.setCell,mE,hs.heap];rfl,hs.tape,hs.os,hs.output⟩
  obtain⟨a',w',h',hr,r⟩:=ih Q _ H _ LN;refine⟨a',w',h',?_,r⟩;have e1:w.cell? a=G u:=by rw[World.cell?,hs.heap];exact h2
  have e2:w.frozen? a=false:=by rw[World.frozen?,hs.heap];exact h3
  cases v<;>first|(simp[YN]at h1;done)|(simp only[Sem.run,e1,e2,aU,if_false];exact hr)
 | new o k ih=>
  intro Q h H w hs;have LN:Sg T { w with heap:=w.heap.push o } (h.push o):=⟨by simp only[hs.heap],hs.tape,hs.os,hs.output⟩
  have e:w.heap.size=h.size:=by rw[hs.heap]
  obtain⟨a',w',h',hr,r⟩:=ih h.size Q _ H _ LN;refine⟨a',w',h',?_,r⟩;rw[Sem.run,e];exact hr
 | shape r k ih=>
  intro Q h H w hs;obtain⟨a',w',h',hr,r'⟩:=ih _ Q h H w hs;refine⟨a',w',h',?_,r'⟩;have:w.shape? r=VO h r:=by rw[World.shape?,hs.heap];rfl
  rw[Sem.run,this];exact hr
 | freeze a n k ih=>
  intro Q h H w hs;have LN:Sg T (w.freeze a n) (Rq h a n):=by
   unfold World.freeze Rq;split
   .exact hs
   .exact⟨by simp only[hs.heap];rfl,hs.tape,hs.os,hs.output⟩
  obtain⟨a',w',h',hr,r'⟩:=ih Q _ H _ LN;exact⟨a',w',h',by rw[Sem.run];exact hr,r'⟩
 | frozen a k ih=>
  intro Q h H w hs;obtain⟨a',w',h',hr,r'⟩:=ih _ Q h H w hs;refine⟨a',w',h',?_,r'⟩;have:w.frozen? a=j2 h a:=by rw[World.frozen?,hs.heap];rfl
  rw[Sem.run,this];exact hr
 | getObj r k ih=>
  intro Q h H w hs;obtain⟨o,ho,hc,H⟩:=H;obtain⟨a',w',h',hr,r'⟩:=ih o Q h H w hs;refine⟨a',w',h',?_,r'⟩;have e:w.heap[r]? = G o:=by rw[hs.heap];exact ho
  simp only[Sem.run,e]
  cases o<;>first|(simp[I0]at hc;done)|exact hr
 | setObj r o k ih=>
  intro Q h H w hs;obtain⟨⟨o',ho,hc⟩,H⟩:=H;have LN:Sg T { w with heap:=w.heap.setIfInBounds r o } (h.setIfInBounds r o):=⟨by simp only[hs.heap],hs.tape,hs.os,hs.output⟩
  obtain⟨a',w',h',hr,r'⟩:=ih Q _ H _ LN;refine⟨a',w',h',?_,r'⟩;have e:w.heap[r]? = G o':=by rw[hs.heap];exact ho
  simp only[Sem.run,e]
  cases o'<;>first|(simp[I0]at hc;done)|exact hr
 | choose q k ih=>
  intro Q h H w hs;simp only[hw]at H;split at H
  .rename_i hq;obtain⟨a',w',h',hr,r'⟩:=ih _ Q h H w hs;exact⟨a',w',h',by rw[Sem.run,if_pos hq];exact hr,r'⟩
  .rename_i hq;have LN:Sg T { w with drawn:=w.drawn+1 } h:=⟨hs.heap,hs.tape,hs.os,hs.output⟩
   obtain⟨a',w',h',hr,r'⟩:=ih _ Q h (H (w.tape w.drawn q)) _ LN;exact⟨a',w',h',by rw[Sem.run,if_neg hq];exact hr,r'⟩
 | sys c k ih=>intro Q h H;exact H.elim
 | program k ih=>
  intro Q h H w hs;obtain⟨a',w',h',hr,r'⟩:=ih _ Q h H w hs;exact⟨a',w',h',by rw[Sem.run];exact hr,r'⟩
 | mark m k ih=>
  intro Q h H w hs;obtain⟨a',w',h',hr,r'⟩:=ih Q h H w hs;exact⟨a',w',h',by rw[Sem.run];exact hr,r'⟩
 | halt x=>intro Q h H;exact H.elim
theorem Zj{β:Type}(s:Sem α)(f:α->Sem β)(Q:β->Hp->Prop):∀h,hw P (s >>= f) Q h=hw P s (fun a h'=>hw P (f a) Q h') h:=by
 show ∀h,hw P (s.bind f) Q h=_
 induction s with
 | pure a=>intro h;rfl
 | load m a k ih=>intro h;simp only[Sem.bind,hw,ih]
 | store m a v k ih=>intro h;simp only[Sem.bind,hw,ih]
 | new o k ih=>intro h;simp only[Sem.bind,hw,ih]
 | shape r k ih=>intro h;simp only[Sem.bind,hw,ih]
 | freeze a n k ih=>intro h;simp only[Sem.bind,hw,ih]
 | frozen a k ih=>intro h;simp only[Sem.bind,hw,ih]
 | getObj r k ih=>intro h;simp only[Sem.bind,hw,ih]
 | setObj r o k ih=>intro h;simp only[Sem.bind,hw,ih]
 | choose q k ih=>intro h;simp only[Sem.bind,hw,ih]
 | sys c k ih=>intro h;simp only[Sem.bind,hw]
 | program k ih=>intro h;simp only[Sem.bind,hw,ih]
 | mark m k ih=>intro h;simp only[Sem.bind,hw,ih]
 | halt x=>intro h;rfl
theorem j3{Q Q':α->Hp->Prop}(hq:∀a h,Q a h->Q' a h):∀(s:Sem α) (h:Hp),hw P s Q h->hw P s Q' h:=by
 intro s
 induction s with
 | pure a=>intro h H;exact hq _ _ H
 | load m a k ih=>intro h H;obtain⟨v,hv,H⟩:=H;exact⟨v,hv,ih _ _ H⟩
 | store m a v k ih=>intro h H;obtain⟨h1,h2,h3,H⟩:=H;exact⟨h1,h2,h3,ih _ H⟩
 | new o k ih=>intro h H;exact ih _ _ H
 | shape r k ih=>intro h H;exact ih _ _ H
 | freeze a n k ih=>intro h H;exact ih _ H
 | frozen a k ih=>intro h H;exact ih _ _ H
 | getObj r k ih=>intro h H;obtain⟨o,h1,h2,H⟩:=H;exact⟨o,h1,h2,ih _ _ H⟩
 | setObj r o k ih=>intro h H;obtain⟨h1,H⟩:=H;exact⟨h1,ih _ H⟩
 | choose q k ih=>
  intro h H;simp only[hw]at H ⊢;split at H
  .rename_i hf;rw[if_pos hf];exact ih _ _ H
  .rename_i hf;rw[if_neg hf];exact fun t=>ih _ _ (H t)
 | sys c k ih=>intro h H;exact H
 | program k ih=>intro h H;exact ih _ _ H
 | mark m k ih=>intro h H;exact ih _ H
 | halt x=>intro h H;exact H
def Zg(P:aa)(T:al)(f:FuncId)(args:Array D)(h:Hp)(Q:D->Hp->Prop):Prop:=
 ∀w,Sg T w h->Calls P f args w fun e w'=>∃v h',e=.returned v/\Sg T w' h'/\Q v h'
theorem Zg.mono{T:al}{f:FuncId}{args:Array D}{Q':D->Hp->Prop}(H:Zg P T f args h Q)(hq:∀v h',Q v h'->Q' v h'):Zg P T f args h Q':=
 fun w hs=>(H w hs).mono fun _ _ ⟨v,h',he,LN,q⟩=>⟨v,h',he,LN,hq _ _ q⟩
def Jr(P:aa)(T:al)(K:D->Hp->Prop):Next->Hp->Prop
 | .value v,h=>K v h
 | .skip,h=>K undef h
 | .enter f args,h=>Zg P T f args h K
 | _,_=>False
def EB(P:aa)(T:al)(o:Oper)(K:D->Hp->Prop)(F:Env)(h:Hp):Prop:=
 hw P (execOp (ev F) o) (Jr P T K) h
theorem Ht{T:al}{K K':D->Hp->Prop}(hk:∀v h,K v h->K' v h):∀(x:Next) (h:Hp),Jr P T K x h->Jr P T K' x h:=by
 intro x h H
 cases x<;>simp only[Jr]at H ⊢<;>first|exact hk _ _ H|exact H.mono hk
theorem Mv{T:al}{o:Oper}{K K':D->Hp->Prop}{F:Env}(hk:∀v h,K v h->K' v h)(H:EB P T o K F h):EB P T o K' F h:=
 j3 (Ht hk) _ _ H
theorem EC{T:al}{o:Oper}{K:D->Hp->Prop}{F:Env}(H:EB P T o K F h){a:Act}{w:al}(hF:env a=F)(hs:Sg T w h){next:Act->al->Prop}{Q:Exit->Act->al->Prop}(hk:∀v w' h',Sg T w' h'->K v h'->next (a.put o.dst v) w'):o.wp P a w next Q:=by
 obtain⟨x,w',h',hr,LN,hx⟩:=tT _ _ _ H w hs;unfold Oper.wp;rw[BK,hF,hr]
 cases x<;>simp only[Jr]at hx
 case value v=>exact hk _ _ _ LN hx
 case skip=>exact hk _ _ _ LN hx
 case enter f args=>
  simp only[Oper.upon];exact (hx w' LN).mono fun e w'' ⟨v,II,he,ZpD,q⟩=>by subst he;exact hk _ _ _ ZpD q
def WB(ops:Array Oper)(F:Env)(j:Nat):Option Bool:=
 match (ops[j]?).bind (·.dst) with
 | some t=>match F t with
  | ak b=>G b
  | _=>U
 | none=>U
def YW(ops:Array Oper)(o:Oper)(F:Env):Bool:=bj o (WB ops F)
def tU(n:Nat)(o:Oper):Bool:=match o.dst with|some d=>Nat.blt d n|none=>true
def Hv(n:Nat)(ops:Array Oper):Bool:=ops.toList.all (tU n)
theorem NC{o:Oper}(h:tU n o=true):∀d,o.dst=G d->d<n:=by
 intro d hd;unfold tU at h;rw[hd]at h;exact Nat.blt_eq.mp h
theorem KD{ops:Array Oper}(QZ:Hv n ops=true)(a:Act)(hn:a.tmps.size=n):yielded ops a.tmps=WB ops (env a):=by
 funext j
 unfold yielded WB
 cases hj:ops[j]? with
 | none=>rfl
 | some o=>
  simp only[am]
  cases hd:o.dst with
  | none=>rfl
  | some d=>
   have ZV:d<a.tmps.size:=by
    rw[hn];have hm:o∈ops.toList:=by
     have:=b7 hj
     simpa using this
    exact NC (b0.1 QZ o hm) d hd
   simp only[am];rw[ba ZV];have:env a d=a.tmps[d]:=by simp[env,ZV]
   rw[this]
   cases a.tmps[d]<;>rfl
def mF(P:aa)(T:al)(ops:Array Oper)(N:Env->Hp->Prop):List Oper->Env->Hp->Prop
 | [],F,h=>N F h
 | o :: l,F,h=>
  if YW ops o F then EB P T o (fun v h'=>mF P T ops N l (YG F o.dst v) h') F h
  else mF P T ops N l (YG F o.dst undef) h
def Zbi(n:Nat)(T:al)(N:Env->Hp->Prop)(X:Nat->Env->Hp->Prop)(R:Env->Hp->Prop)(e:Exit)(a:Act)(w:al):Prop:=
 a.tmps.size=n/\a.defers=[]/\∃h,Sg T w h/\match e with
  | .normal=>N (env a) h
  | .exit j=>X j (env a) h
  | .ret=>R (env a) h
  | _=>False
def VS(P:aa)(n:Nat)(T:al)(c:Code)(N:Env->Hp->Prop)(X:Nat->Env->Hp->Prop)(R:Env->Hp->Prop)(F:Env)(h:Hp):Prop:=
 ∀a w,a.tmps.size=n->a.defers=[]->env a=F->Sg T w h->c.wp P (Zbi n T N X R) a w
section
variable {P:aa} {n:Nat} {T:al} {N:Env->Hp->Prop} {X:Nat->Env->Hp->Prop} {R:Env->Hp->Prop} {F:Env} {h:Hp}
theorem VS.mono{c:Code}{N':Env->Hp->Prop}{X':Nat->Env->Hp->Prop}{R':Env->Hp->Prop}(H:VS P n T c N X R F h)(hN:∀F h,N F h->N' F h)(hX:∀j F h,X j F h->X' j F h)(hR:∀F h,R F h->R' F h):VS P n T c N' X' R' F h:=by
 intro a w h1 h2 h3 h4;refine Code.wp_mono (fun e a w ⟨q1,q2,h,q3,q4⟩=>⟨q1,q2,h,q3,?_⟩) (H a w h1 h2 h3 h4)
 cases e<;>simp only at q4 ⊢<;>first|exact hN _ _ q4|exact hX _ _ _ q4|exact hR _ _ q4
theorem VS.seq{c d:Code}(H:VS P n T c (fun F h=>VS P n T d N X R F h) X R F h):VS P n T (.seq c d) N X R F h:=by
 intro a w h1 h2 h3 h4;refine wp_seq (Code.wp_mono (fun e a w ⟨q1,q2,h,q3,q4⟩=>?_) (H a w h1 h2 h3 h4))
 cases e with
 | normal=>exact q4 a w q1 q2 rfl q3
 | exit j=>exact⟨q1,q2,h,q3,q4⟩
 | ret=>exact⟨q1,q2,h,q3,q4⟩
 | _=>exact q4.elim
theorem VS.skip(H:N F h):VS P n T .skip N X R F h:=by
 intro a w h1 h2 h3 h4;exact wp_skip ⟨h1,h2,h,h4,by rw[h3];exact H⟩
theorem VS.ret(H:R F h):VS P n T .ret N X R F h:=by
 intro a w h1 h2 h3 h4;exact wp_ret ⟨h1,h2,h,h4,by rw[h3];exact H⟩
theorem VS.exit{j:Nat}(H:X j F h):VS P n T (.exit j) N X R F h:=by
 intro a w h1 h2 h3 h4;exact wp_exit ⟨h1,h2,h,h4,by rw[h3];exact H⟩
theorem VS.block{j:Nat}{c:Code}(H:VS P n T c N (fun i F h=>if i=j then N F h else X i F h) R F h):VS P n T (.block j c) N X R F h:=by
 intro a w h1 h2 h3 h4;refine wp_block (Code.wp_mono (fun e a w ⟨q1,q2,h,q3,q4⟩=>?_) (H a w h1 h2 h3 h4))
 cases e with
 | normal=>exact⟨q1,q2,h,q3,q4⟩
 | exit i=>
  simp only[Exit.inBlock];simp only at q4;split
  .rename_i sK;rw[if_pos sK]at q4;exact⟨q1,q2,h,q3,q4⟩
  .rename_i sK;rw[if_neg sK]at q4;exact⟨q1,q2,h,q3,q4⟩
 | ret=>exact⟨q1,q2,h,q3,q4⟩
 | _=>exact q4.elim
theorem VS.cond{c:a0}{x y:Code}{b:Bool}(hc:ev F c=ak b)(ht:b=true->VS P n T x N X R F h)(hf:b=false->VS P n T y N X R F h):
  VS P n T (.cond c x y) N X R F h:=by
 intro a w h1 h2 h3 h4;refine wp_cond_split (t:=b) (by rw[BK,h3];exact hc) (fun hb=>ht hb a w h1 h2 h3 h4) (fun hb=>hf hb a w h1 h2 h3 h4)
theorem VS.loop{c:Code}(I:Env->Hp->Prop)(μ:Env->Hp->Nat)(h0:I F h)(round:∀F h,I F h->VS P n T c (fun F' h'=>I F' h'/\μ F' h'<μ F h) X R F h):VS P n T (.loop c) N X R F h:=by
 intro a w h1 h2 h3 h4;refine wp_loop (fun a w=>a.tmps.size=n/\a.defers=[]/\Sg T w w.heap/\I (env a) w.heap) (fun a w=>μ (env a) w.heap)
  ⟨h1,h2,by rw[h4.heap];exact h4,by rw[h3,h4.heap];exact h0⟩ ?_
 intro a w ⟨q1,q2,q3,q4⟩;refine Code.wp_mono (fun e a' w' ⟨p1,p2,h',p3,p4⟩=>?_) (round (env a) w.heap q4 a w q1 q2 rfl q3)
 cases e with
 | normal=>
  have e:=p3.heap;subst e;exact⟨⟨p1,p2,p3,p4.1⟩,p4.2⟩
 | exit j=>exact⟨p1,p2,h',p3,p4⟩
 | ret=>exact⟨p1,p2,h',p3,p4⟩
 | _=>exact p4.elim
theorem VP{ops:Array Oper}(QZ:Hv n ops=true):∀(l:List Oper) (F:Env) (h:Hp),(∀o∈l,o∈ops.toList)->mF P T ops N l F h ->
  ∀a w,a.tmps.size=n->a.defers=[]->env a=F->Sg T w h->wpList P ops (Zbi n T N X R) l a w
 | [],F,h,_,H,a,w,h1,h2,h3,h4=>⟨h1,h2,h,h4,by rw[h3];exact H⟩
 | o :: l,F,h,hm,H,a,w,h1,h2,h3,h4=>by
  have hd:∀d,o.dst=G d->d<a.tmps.size:=by
   rw[h1];exact NC (b0.1 QZ o (hm o sW))
  have I3:∀o∈l,o∈ops.toList:=fun x hx=>hm x (by simp[hx]);have DU:bj o (yielded ops a.tmps)=YW ops o F:=by rw[KD QZ a h1,h3];rfl
  unfold wpList;rw[DU];unfold mF at H;split at H
  .rename_i hw;rw[if_pos hw];refine .inl (EC H h3 h4 fun v w' h' LN hk=>?_);exact VP QZ l _ h' I3 hk _ _ (by rw[Mu,h1]) (by cases o.dst<;>exact h2) (by rw[IZ a _ _ hd,h3]) LN
  .rename_i hw;rw[if_neg hw];exact VP QZ l _ h I3 H _ _ (by rw[Mu,h1]) (by cases o.dst<;>exact h2) (by rw[IZ a _ _ hd,h3]) h4
theorem VS.region{id:Nat}{ops:Array Oper}(QZ:Hv n ops=true)(H:mF P T ops N ops.toList F h):VS P n T (.region id ops false) N X R F h:=by
 intro a w h1 h2 h3 h4;exact wp_region_list (VP QZ ops.toList F h (fun _ h=>h) H a w h1 h2 h3 h4)
def Vs(P:aa)(T:al)(ops:Array Oper)(i:Nat)(K:Env->Hp->Prop)(F:Env)(h:Hp):Prop:=
 match ops[i]? with
 | none=>K F h
 | some o=>if YW ops o F then EB P T o (fun v h'=>K (YG F o.dst v) h') F h else K (YG F o.dst undef) h
theorem VI{ops:Array Oper}{K K':Env->Hp->Prop}(hk:∀F h,K F h->K' F h){F:Env}(H:Vs P T ops i K F h):Vs P T ops i K' F h:=by
 unfold Vs at *;split at H
 .exact hk _ _ H
 .split at H
  .rename_i hw;rw[if_pos hw];exact Mv (fun _ _ q=>hk _ _ q) H
  .rename_i hw;rw[if_neg hw];exact hk _ _ H
def mG(P:aa)(T:al)(ops:Array Oper)(S:Hp->Prop)(N:Env->Hp->Prop):Nat->Array Bool->Env->Hp->Prop
 | 0,listed,F,h=>a5 .any ops listed=[]/\N F h
 | k+1,listed,F,h=>(a5 .any ops listed=[]->N F h) /\
   ∀i∈a5 .any ops listed,Vs P T ops i (fun F' h'=>S h'/\mG P T ops S N k (listed.setIfInBounds i true) F' h') F h
theorem Uf{ops:Array Oper}{S:Hp->Prop}(QZ:Hv n ops=true):∀(k:Nat) (listed:Array Bool) (F:Env) (h:Hp),mG P T ops S N k listed F h ->
  ∀a w,a.tmps.size=n->a.defers=[]->env a=F->Sg T w h->wpAny P .any ops (Zbi n T N X R) k listed a w
 | 0,listed,F,h,H,a,w,h1,h2,h3,h4=>⟨H.1,h1,h2,h,h4,by rw[h3];exact H.2⟩
 | k+1,listed,F,h,H,a,w,h1,h2,h3,h4=>by
  refine⟨fun h0=>⟨h1,h2,h,h4,by rw[h3];exact H.1 h0⟩,fun i hi=>?_⟩;have Hi:=H.2 i hi;unfold Vs at Hi;unfold wpOp
  cases ho:ops[i]? with
  | none=>rw[ho]at Hi;exact Uf QZ k _ F h Hi.2 a w h1 h2 h3 h4
  | some o=>
   rw[ho]at Hi;simp only at Hi ⊢;have hd:∀d,o.dst=G d->d<a.tmps.size:=by
    rw[h1];exact NC (b0.1 QZ o (by have:=b7 ho;simpa using this))
   have DU:bj o (yielded ops a.tmps)=YW ops o F:=by rw[KD QZ a h1,h3];rfl
   rw[DU];split at Hi
   .rename_i hw;rw[if_pos hw];refine .inl (EC Hi h3 h4 fun v w' h' LN hk=>?_);exact Uf QZ k _ _ h' hk.2 _ _ (by rw[Mu,h1]) (by cases o.dst<;>exact h2) (by rw[IZ a _ _ hd,h3]) LN
   .rename_i hw;rw[if_neg hw];exact Uf QZ k _ _ h Hi.2 _ _ (by rw[Mu,h1]) (by cases o.dst<;>exact h2) (by rw[IZ a _ _ hd,h3]) h4
def Wx(P:aa)(T:al)(ops:Array Oper)(S:Hp->Prop)(o:Oper)(v:D)(F:Env):Prop:=
 (YW ops o F=true/\∀h,S h->EB P T o (fun v' h'=>v'=v/\h'=h) F h)\/(YW ops o F=false/\v=undef)
theorem Zbj{F:Env}{dst:Option Nat}(hx:∀d,dst=G d->x ≠ .tmp d):ev (YG F dst v) x=ev F x:=by
 cases dst with
 | none=>rfl
 | some d=>
  cases x with
  | tmp t=>
   have Xb:t≠d:=fun e=>hx d rfl (by rw[e]);show (if t=d then v else F t)=F t;rw[if_neg Xb]
  | _=>rfl
theorem KF{ops:Array Oper}(o:Oper)(hs:∀cs b,o.op ≠ .select cs b)(F:Env)(dst:Option Nat)(v:D)(h:∀d,dst=G d->d ∉ o.looksAt ops):
  execOp (ev (YG F dst v)) o=execOp (ev F) o:=
 execOp_congr o hs fun x hx=>Zbj fun d hd hxd=>h d hd (by
  subst hxd;exact List.mem_append_left _ (List.mem_filterMap.2 ⟨.tmp d,by simpa using hx,rfl⟩))
theorem Mw{ops:Array Oper}(o:Oper)(F:Env)(dst:Option Nat)(v:D)(h:∀d,dst=G d->d ∉ o.looksAt ops):
  YW ops o (YG F dst v)=YW ops o F:=by
 cases dst with
 | none=>rfl
 | some d=>
  unfold YW bj
  cases hg:o.guard with
  | none=>rfl
  | some gw=>
   obtain⟨g,want⟩:=gw;simp only;have hd:=h d rfl;unfold Oper.looksAt at hd;rw[hg]at hd;simp only[List.mem_append,not_or]at hd;have:WB ops (YG F (G d) v) g=WB ops F g:=by
    unfold WB
    cases hb:(ops[g]?).bind (·.dst) with
    | none=>rfl
    | some t=>
     have Xb:t≠d:=fun e=>hd.2 (by rw[hb,e];simp);show (match (if t=d then v else F t) with|ak b=>G b|_=>U)=_;rw[if_neg Xb]
   rw[this]
theorem ED(F:Env){d d':Option Nat}(v v':D)(h:∀x,d=G x->d'≠G x):YG (YG F d v) d' v'=YG (YG F d' v') d v:=by
 cases d with
 | none=>rfl
 | some x=>
  cases d' with
  | none=>rfl
  | some y=>
   have Xb:y≠x:=fun e=>h x rfl (by rw[e])
   funext t
   simp only[YG,upd];by_cases h1:t=y
   .subst h1;rw[if_pos rfl,if_neg Xb,if_pos rfl]
   .rw[if_neg h1];by_cases h2:t=x
    .rw[if_pos h2,if_pos h2]
    .rw[if_neg h2,if_neg h2,if_neg h1]
theorem Wx.put{ops:Array Oper}{S:Hp->Prop}{o:Oper}(hs:∀cs b,o.op ≠ .select cs b){F:Env}(hy:Wx P T ops S o v F){dst:Option Nat}{u:D}(h:∀d,dst=G d->d ∉ o.looksAt ops):Wx P T ops S o v (YG F dst u):=by
 unfold Wx EB at *;rw[Mw o F dst u h,KF o hs F dst u h];exact hy
theorem Wx.opI{ops:Array Oper}{S:Hp->Prop}{o:Oper}{F:Env}(hi:ops[i]? = G o)(hy:Wx P T ops S o v F)(hS:S h){K:Env->Hp->Prop}(H:K (YG F o.dst v) h):Vs P T ops i K F h:=by
 unfold Vs;rw[hi];rcases hy with⟨hw,hv⟩|⟨hw,rfl⟩
 .simp only[hw,if_true];exact Mv (fun v' h' ⟨e1,e2⟩=>by subst e1;subst e2;exact H) (hv h hS)
 .simp only[hw,aU,if_false];exact H
theorem BL{ops:Array Oper}{S:Hp->Prop}{j:Nat}{oi oj:Oper}(hj:ops[j]? = G oj)(hap:oi.apart ops oj=true)(hsi:∀cs b,oi.op ≠ .select cs b)(hsj:∀cs b,oj.op ≠ .select cs b){K:Env->Hp->Prop}{F:Env}(hy:Wx P T ops S oi v F)(H:Vs P T ops j K (YG F oi.dst v) h):Vs P T ops j (fun F' h'=>Wx P T ops S oi v F'/\K (YG F' oi.dst v) h') F h:=by
 obtain⟨h1,h2,h3⟩:=Oper.apart_spec hap;unfold Vs at *;rw[hj]at *;simp only at *;rw[Mw oj F oi.dst v h1]at H;split at H
 .rename_i hw;rw[if_pos hw];unfold EB at *;rw[KF oj hsj F oi.dst v h1]at H;refine j3 (Ht fun u h' q=>?_) _ _ H;exact⟨hy.put hsi h3,by rw[<-ED F v u h2];exact q⟩
 .rename_i hw;rw[if_neg hw];exact⟨hy.put hsi h3,by rw[<-ED F v undef h2];exact H⟩
theorem Hw{ops:Array Oper}{S:Hp->Prop}{oi:Oper}(hi:ops[i]? = G oi)(tV:∀(j:Nat) (o:Oper) cs b,ops[j]? = G o->o.op ≠ .select cs b):
  ∀(k:Nat) (listed:Array Bool) (F:Env) (h:Hp),
   (∀j oj,ops[j]? = G oj->j≠i->listed.getD j true=false->(∀e∈oj.after,co .any e=true->e.on≠i)->oi.apart ops oj=true) ->
   i∈a5 .any ops listed->Wx P T ops S oi v F->S h ->
   mG P T ops S N k (listed.setIfInBounds i true) (YG F oi.dst v) h->mG P T ops S N (k+1) listed F h:=by
 intro k
 induction k with
 | zero=>
  intro listed F h _ hr hy hS H;refine⟨fun h=>(by rw[h]at hr;cases hr),fun j hj=>?_⟩;by_cases Px:j=i
  .subst Px;exact hy.opI hi hS ⟨hS,H⟩
  .have:=ready_mono hj Px;rw[H.1]at this
   cases this
 | succ k ih=>
  intro listed F h BM hr hy hS H;refine⟨fun h=>(by rw[h]at hr;cases hr),fun j hj=>?_⟩;by_cases Px:j=i
  .subst Px;exact hy.opI hi hS ⟨hS,H⟩
  .have h1:=H.2 j (ready_mono hj Px);obtain⟨tW,oj,hoj,XT⟩:=mem_ready.1 hj;have dX:∀e∈oj.after,co .any e=true->e.on≠i:=fun e he hb heq=>by
    have h1:=XT e he hb;have h0:=(mem_ready.1 hr).1;rw[heq]at h1;rcases Nat.lt_or_ge i listed.size with h'|h'
    .simp[h']at h0 h1;rw[h0]at h1;cases h1
    .simp[b4 h']at h1
   have h2:=BL hoj (BM j oj hoj Px tW dX) (fun cs b=>tV i oi cs b hi) (fun cs b=>tV j oj cs b hoj) hy h1;have dY:∀k ok,ops[k]? = G ok->k≠i->(listed.setIfInBounds j true).getD k true=false ->
     (∀e∈ok.after,co .any e=true->e.on≠i)->oi.apart ops ok=true:=fun k ok hk hki hun tX=>by
    refine BM k ok hk hki ?_ tX;by_cases tY:j=k
    .subst tY;exact tW
    .rw[getD_set_ne true tY]at hun;exact hun
   refine VI (fun F' h' h3=>⟨h3.2.1,ih (listed.setIfInBounds j true) F' h' dY (ready_mono hr (Ne.symm Px)) h3.1 h3.2.1 ?_⟩) h2;rw[Array.setIfInBounds_comm _ _ Px];exact h3.2.2
def Mx(P:aa)(T:al)(ops:Array Oper)(S:Hp->Prop)(N:Env->Hp->Prop):List (Nat × Bool × Oper)->Env->Hp->Prop
 | [],F,h=>N F h
 | (_,q,o) :: l,F,h=>
  if YW ops o F then
   if q then ∃v,(∀h',S h'->EB P T o (fun v' II=>v'=v/\II=h') F h')/\Mx P T ops S N l (YG F o.dst v) h
   else EB P T o (fun v h'=>S h'/\Mx P T ops S N l (YG F o.dst v) h') F h
  else Mx P T ops S N l (YG F o.dst undef) h
def WZ(ops:Array Oper)(l:List (Nat × Bool)):List (Nat × Bool × Oper):=l.map fun (i,q)=>(i,q,ops.getD i default)
def Hx(ops:Array Oper):List (Nat × Bool)->Array Bool->Bool
 | [],listed=>(a5 .any ops listed).isEmpty
 | (i,q) :: l,listed=>
  (if q then (a5 .any ops listed).contains i&&Region.free .any ops listed i else (a5 .any ops listed == [i]))&&Hx ops l (listed.setIfInBounds i true)
theorem Ug{ops:Array Oper}{S:Hp->Prop}(hs:cB ops=true):∀(l:List (Nat × Bool)) (listed:Array Bool) (F:Env) (h:Hp),Hx ops l listed=true->S h ->
  Mx P T ops S N (WZ ops l) F h->mG P T ops S N (M l) listed F h
 | [],listed,F,h,hB,_,H=>⟨by simpa [Hx] using hB,H⟩
 | (i,q) :: l,listed,F,h,hB,hS,H=>by
  simp only[Hx,au]at hB;obtain⟨WC,Py⟩:=hB;have IJ:i∈a5 .any ops listed:=by
   cases q
   .simp only[aU,if_false,beq_iff_eq]at WC;rw[WC];simp
   .simp only[if_true,au]at WC;simpa using WC.1
  obtain⟨_,o,ho,_⟩:=mem_ready.1 IJ;have hp:WZ ops ((i,q) :: l)=(i,q,o) :: WZ ops l:=by simp[WZ,ho]
  rw[hp]at H;simp only[Mx]at H
  cases q with
  | true=>
   simp only[if_true,au]at WC H;split at H
   .rename_i hw;obtain⟨v,hv,H⟩:=H;exact Hw ho (ca hs) (M l) listed F h (cw ho WC.2) IJ (.inl ⟨hw,hv⟩) hS (Ug hs l _ _ _ Py hS H)
   .rename_i hw;exact Hw ho (ca hs) (M l) listed F h (cw ho WC.2) IJ (.inr ⟨by simpa using hw,rfl⟩) hS (Ug hs l _ _ _ Py hS H)
  | false=>
   simp only[aU,if_false,beq_iff_eq]at WC H;refine⟨fun h0=>(by rw[h0]at IJ;cases IJ),fun j hj=>?_⟩;rw[WC]at hj;have hj:j=i:=by simpa using hj
   subst hj;unfold Vs;rw[ho];simp only;split at H
   .rename_i hw;rw[if_pos hw];exact Mv (fun v h' q=>⟨q.1,Ug hs l _ _ _ Py q.1 q.2⟩) H
   .rename_i hw;rw[if_neg hw];exact⟨hS,Ug hs l _ _ _ Py hS H⟩
def SD(n:Nat)(ops:Array Oper)(l:List (Nat × Bool)):Bool:=
 Hv n ops&&(cB ops&&(Hx ops l (cC ops.size false)&&Nat.beq (M l) ops.size))
theorem VS.held{id:Nat}{ops:Array Oper}(S:Hp->Prop)(l:List (Nat × Bool))(hm:P.follows .mixedOrders=true)(QZ:SD n ops l=true)(hS:S h)(H:Mx P T ops S N (WZ ops l) F h):VS P n T (.region id ops true) N X R F h:=by
 intro a w h1 h2 h3 h4;simp only[SD,au]at QZ;obtain⟨k1,k2,k3,k4⟩:=QZ;refine wp_region_any hm ?_;have hl:(M l)=ops.size:=Nat.eq_of_beq_eq_true k4;rw[<-hl];refine Uf k1 _ _ F h (Ug k2 l _ F h (by rw[hl];exact k3) hS H) a _ h1 h2 h3 ⟨h4.heap,h4.tape,h4.os,h4.output⟩
theorem VS.quiet{id:Nat}{ops:Array Oper}(hm:P.follows .mixedOrders=true)(QZ:SD n ops ((bg ops.size).map fun i=>(i,true))=true)(H:Mx P T ops (fun h'=>h'=h) N (WZ ops ((bg ops.size).map fun i=>(i,true))) F h):VS P n T (.region id ops true) N X R F h:=
 VS.held (fun h'=>h'=h) _ hm QZ rfl H
def hr{α:Type}(P:aa):Sem α->Hp->Option α
 | .pure a,_=>G a
 | .load _ a k,h=>(hc h a).bind fun v=>hr P (k v) h
 | .shape r k,h=>hr P (k (VO h r)) h
 | .frozen a k,h=>hr P (k (j2 h a)) h
 | .program k,h=>hr P (k P) h
 | _,_=>U
theorem tZ{T:al}:∀(s:Sem α) (h:Hp) (a:α),hr P s h=G a->∀w,Sg T w h->s.run P w=.ok a w:=by
 intro s
 induction s with
 | pure a=>intro h b H w hs;simp only[hr,Option.some.injEq]at H;rw[H];rfl
 | load m a k ih=>
  intro h b H w hs;simp only[hr]at H
  cases hv:hc h a with
  | none=>rw[hv]at H;cases H
  | some v=>
   rw[hv]at H;have:w.cell? a=G v:=by rw[World.cell?,hs.heap];exact hv
   rw[Sem.run,this];exact ih v h b H w hs
 | shape r k ih=>
  intro h b H w hs;have:w.shape? r=VO h r:=by rw[World.shape?,hs.heap];rfl
  rw[Sem.run,this];exact ih _ h b H w hs
 | frozen a k ih=>
  intro h b H w hs;have:w.frozen? a=j2 h a:=by rw[World.frozen?,hs.heap];rfl
  rw[Sem.run,this];exact ih _ h b H w hs
 | program k ih=>intro h b H w hs;rw[Sem.run];exact ih _ h b H w hs
 | _=>intro h b H;cases H
theorem QB{β:Type}(s:Sem α)(f:α->Sem β):∀h,hr P (s >>= f) h=(hr P s h).bind fun a=>hr P (f a) h:=by
 show ∀h,hr P (s.bind f) h=_
 induction s with
 | load m a k ih=>intro h;simp only[Sem.bind,hr,ih];cases hc h a<;>rfl
 | shape r k ih=>intro h;simp only[Sem.bind,hr,ih]
 | frozen a k ih=>intro h;simp only[Sem.bind,hr,ih]
 | program k ih=>intro h;simp only[Sem.bind,hr,ih]
 | _=>intro h;rfl
def My(P:aa)(t:O)(v:D)(h:Hp):Option D:=
 match v with
 | J (G a)=>hr P (loadVar t a) h
 | _=>U
def QC(P:aa)(F:Env)(h:Hp):List ResultVar->Option (List D)
 | []=>G []
 | .tmp t :: l=>(QC P F h l).map (F t :: ·)
 | .cell a t :: l=>(My P t (F a) h).bind fun v=>(QC P F h l).map (v :: ·)
def NE:List D->D
 | [v]=>v
 | l=>.tuple l.toArray
def Hy(P:aa)(l:List ResultVar)(F:Env)(Q:D->Hp->Prop)(h:Hp):Prop:=
 match QC P F h l with
 | some vs=>Q (NE vs) h
 | none=>False
def Zbl(F:Env):ResultVar->Sem D
 | .tmp t=>pure (F t)
 | .cell a t=>do loadVar t (<-asAddr (F a))
theorem mH{F:Env}:∀(l:List ResultVar) (vs:List D),QC P F h l=G vs->hr P (l.mapM (Zbl F)) h=G vs:=by
 intro l
 induction l with
 | nil=>intro vs H;simp only[QC,Option.some.injEq]at H;subst H;rfl
 | cons x l ih=>
  intro vs H;rw[bx,QB]
  cases x with
  | tmp t=>
   simp only[QC]at H
   cases hl:QC P F h l with
   | none=>rw[hl]at H;cases H
   | some us=>
    rw[hl]at H;simp only[aF,Option.some.injEq]at H;subst H;show (G (F t)).bind _=_;rw[am,QB,ih us hl];rfl
  | cell a t=>
   simp only[QC]at H
   cases hv:My P t (F a) h with
   | none=>rw[hv]at H;cases H
   | some v=>
    rw[hv]at H
    cases hl:QC P F h l with
    | none=>rw[hl]at H;cases H
    | some us=>
     rw[hl]at H;simp only[am,aF,Option.some.injEq]at H;subst H;have e:hr P (Zbl F (.cell a t)) h=G v:=by
      show hr P (asAddr (F a) >>= fun b=>loadVar t b) h=G v;unfold My at hv;split at hv
      .rename_i b hb;rw[hb,QB];exact hv
      .cases hv
     rw[e,am,QB,ih us hl];rfl
theorem BN{fn:Func}{l:List ResultVar}(hl:fn.results=l.toArray){a:Act}{vs:List D}(H:QC P (env a) h l=G vs){w:al}(hs:Sg T w h):
  (results fn a.tmps).run P w=.ok (NE vs) w:=by
 have e:results fn a.tmps=(do let us <-fn.results.mapM (Zbl (env a));pure (if h:us.size=1 then us[0] else .tuple us)):=by
  have e1:(fun x:ResultVar=>match x with|.tmp t=>(pure (a.tmps.getD t undef):Sem D)|.cell x t=>do loadVar t (<-asAddr (a.tmps.getD x undef)))=Zbl (env a):=by
   funext x
   cases x<;>rfl
  rw[<-e1];rfl
 rw[e,hl];refine tZ (T:=T) _ h _ ?_ w hs;rw[QB,cp,map_eq_pure_bind,QB,mH l vs H];show G _=_
 congr 1
 match vs with
 | []=>rfl
 | [v]=>rfl
 | v :: u :: l=>simp[NE]
end
theorem mI(args:Array D)(k:Nat):env { tmps:=args++cC k undef,defers:=[] } = IH args.toList 0:=by
 have key:∀(l:List D) (j t:Nat),IH l j t=if j<=t then (l[t-j]?).getD undef else undef:=by
  intro l
  induction l with
  | nil=>intro j t;simp[IH]
  | cons v l ih=>
   intro j t;simp only[IH,upd];by_cases h:t=j
   .subst h;simp
   .rw[if_neg h,ih];by_cases h':j<=t
    .have e:t-j=(t-(j+1))+1:=mD;rw[if_pos mD,if_pos h',e];simp
    .rw[if_neg mD,if_neg h']
 funext t
 rw[key];simp only[env,Nat.zero_le,if_true,Nat.sub_zero,bw,Array.getElem?_append,b8];by_cases h:t<args.size
 .rw[if_pos h]
 .rw[if_neg h,b4 (by omega:args.size<=t)];by_cases h2:t-args.size<k
  .simp[h2]
  .simp[h2]
theorem Zg.I4{T:al}{f:FuncId}{fn:Func}{c:Code}{l:List ResultVar}{args:Array D}(hf:P.funcs[f]? = G fn)(hb:fn.body=G c)(hl:fn.results=l.toArray)(hn:cZ args.size fn.ntmps=true)(H:VS P fn.ntmps T c (fun F h'=>Hy P l F Q h') (fun _ _ _=>False) (fun F h'=>Hy P l F Q h') (IH args.toList 0) h):
  Zg P T f args h Q:=by
 intro w hs;refine calls_of_wp hf hb (Code.wp_mono (fun e a w hp=>?_) (H _ w ?_ rfl (mI _ _) hs))
 .obtain⟨q1,q2,h',q3,q4⟩:=hp;have key:Hy P l (env a) Q h'->∃v,(results fn a.tmps).run P w=.ok v w/\∃v' II,Ending.returned v=.returned v'/\Sg T w II/\Q v' II:=by
   intro hr;unfold Hy at hr;split at hr
   .rename_i vs hvs;exact⟨_,BN hl hvs q3,_,h',rfl,q3,hr⟩
   .exact hr.elim
  cases e with
  | normal=>exact⟨q2,key q4⟩
  | ret=>exact⟨q2,key q4⟩
  | _=>exact q4.elim
 .have:=Nat.le_of_ble_eq_true hn;simp only[Array.size_append,Array.size_replicate];omega
set_option linter.all false
def tz(P:aa)(t:O):Option (List D):=((P.info? t).bind (·.zero)).map fun v=>v.cells.toList
def tn(P:aa)(t:O):Option Nat:=(P.info? t).map (·.size)
def tb(P:aa)(t:O):Option Nat:=(P.info? t).map (·.bytes)
def ta(P:aa)(t:O):Option Bool:=(P.underlying t).map fun|.struct _=>true|.array _ _=>true|_=>false
def tf(P:aa)(t:O)(i:Nat):Option Nat:=
 match P.underlying t with
 | some (.struct fs)=>(fs[i]?).bind fun f=>match tn P f.type with
  | some (_+1)=>G f.offset
  | _=>U
 | _=>U
def Xv(P:aa)(t:O):Option (Nat × O):=match P.underlying t with|some (.array n e)=>G (n,e)|_=>U
def QE(P:aa)(t:O):Option O:=match P.underlying t with|some (.slice e)=>G e|_=>U
def NF(P:aa)(t:O):Option (List (Nat × Nat)):=match P.underlying t with|some (.struct fs)=>fs.toList.mapM (fun f=>(tn P f.type).map fun n=>(f.offset,n))|_=>U
def tfl(P:aa)(t:O)(i:Nat):Option (Nat × O):=match P.underlying t with|some (.struct fs)=>(fs[i]?).map fun f=>(f.offset,f.type)|_=>U
def W0(P:aa)(t:O):Bool:=match P.underlying t with|some .string=>true|_=>false
def FX(P:aa)(t:O):Option IntKind:=match P.underlying t with|some (.int k)=>G k|_=>U
def goes(P:aa)(f:FuncId):Bool:=match P.funcs[f]? with|some fn=>!(fn.name == "runtime.NumGoroutine")&&fn.body.isSome|none=>false
def cl:D->List D
 | aw cs=>cs.toList
 | v=>[v]
theorem Mz(v:D):(cl v).toArray=v.cells:=by cases v<;>rfl
section
variable (P:aa) (T:al)
def EE(c a b:D)(K:D->Hp->Prop)(h:Hp):Prop:=
 match c with|ak t=>K (if t then a else b) h|_=>False
def t9(z:Option (List D))(t:O)(K:D->Hp->Prop)(h:Hp):Prop:=
 match z with|some l=>K (J (G ⟨h.size,0,U⟩)) (h.push (Y l.toArray t))|none=>False
def rd(h:Hp)(a:Addr)(n:Nat):Option (List D):=
 match h[a.block]? with
 | some (Y c _ _)=>if a.spot=U/\a.off+n<=c.size then G ((c.toList.drop a.off).take n) else U
 | _=>U
def IK(x:Option D)(K:D->Hp->Prop)(h:Hp):Prop:=match x with|some v=>K v h|none=>False
def Hz(x:Option (List D))(K:D->Hp->Prop)(h:Hp):Prop:=match x with|some l=>K (aw l.toArray) h|none=>False
def MA(s:Option Bool)(n:Option Nat)(p:D)(K:D->Hp->Prop)(h:Hp):Prop:=
 match p with
 | J (G a)=>match s,n with
  | some false,_=>IK (hc h a) K h
  | some true,G n=>Hz (rd h a n) K h
  | _,_=>False
 | _=>False
def Xd:List D->Nat->List D->List D
 | l,_,[]=>l
 | [],_,_ :: _=>[]
 | _ :: l,0,v :: vs=>v :: Xd l 0 vs
 | x :: l,n+1,v :: vs=>x :: Xd l n (v :: vs)
def wr(h:Hp)(a:Addr)(vs:List D):Option Hp:=
 match h[a.block]? with
 | some (Y c e (lo,hi))=>if a.spot=U/\a.off+(M vs)<=c.size/\hi<=lo/\vs.all YN=true then G (h.setIfInBounds a.block (Y (Xd c.toList a.off vs).toArray e (lo,hi))) else U
 | _=>U
def QF(h:Hp)(a:Addr)(v:D):Option Hp:=
 match h[a.block]? with
 | some (Y c e (lo,hi))=>if a.spot=U/\a.off<c.size/\hi<=lo/\YN v=true then G (h.setIfInBounds a.block (Y (c.setIfInBounds a.off v) e (lo,hi))) else U
 | _=>U
def j4(x:Option Hp)(K:D->Hp->Prop):Prop:=match x with|some h'=>K undef h'|none=>False
def Va(n:Option Nat)(p v:D)(K:D->Hp->Prop)(h:Hp):Prop:=
 match p,n with
 | J (G a),G n=>
  if n=(cl v).length then
   match v with
   | aw cs=>j4 (wr h a cs.toList) K
   | v=>j4 (QF h a v) K
  else False
 | _,_=>False
def NH(f:Option Nat)(p:D)(K:D->Hp->Prop)(h:Hp):Prop:=
 match f,p with
 | some o,J (G a)=>K (J (G (a.add o))) h
 | _,_=>False
def XS(op:BinOp)(t:O)(x y:a0)(a b:D)(K:D->Hp->Prop)(h:Hp):Prop:=
 hw P (do eqGuard op t x y a b;binOp op t a b) K h
def vUn(op:UnOp)(a:D)(K:D->Hp->Prop)(h:Hp):Prop:=hw P (Op.unary op a) K h
def MB(src dst:O)(a:D)(K:D->Hp->Prop)(h:Hp):Prop:=hw P (convert src dst a) K h
def vIx(arr:Option (Nat × O))(sl:Option O)(n:O->Option Nat)(p i:D)(K:D->Hp->Prop)(h:Hp):Prop:=
 match i with
 | .int _ i=>(match arr,sl,p with
  | some (len,e),U,J (G a)=>(match n e with
   | some n=>if 0<=i/\i<(len:Int) then K (J (G (a.add (i.toNat*n)))) h else False
   | none=>False)
  | none,G e,Z (G a) len _=>(match n e with
   | some n=>if 0<=i/\i<(len:Int) then K (J (G (a.add (i.toNat*n)))) h else False
   | none=>False)
  | _,_,_=>False)
 | _=>False
def WD(v:D)(i:Nat)(K:D->Hp->Prop)(h:Hp):Prop:=
 match v with|.tuple vs=>IK (vs[i]?) K h|_=>False
def dZ(v:D)(K:D->Hp->Prop)(h:Hp):Prop:=
 match v with|J (G a)=>K (J (G a)) h|.func (.func f) x y=>K (.func (.func f) x y) h|_=>False
def HC(f:D)(args:List D)(K:D->Hp->Prop)(h:Hp):Prop:=
 match f with
 | .func (.func f) first captured=>if goes P f=true then Zg P T f (first.toList++args++captured.toList).toArray h K
  else hw P (callFunc f (first.toList++args++captured.toList).toArray) (Jr P T K) h
 | _=>False
def Ps(b:Builtin)(ts:Array O)(ty:O)(cs:Array Bool)(args:List D)(K:D->Hp->Prop)(h:Hp):Prop:=
 hw P (builtin b ts ty cs args.toArray) (Jr P T K) h
def mJ(F:Env):List a0->List D
 | []=>[]
 | x :: l=>ev F x :: mJ F l
theorem DW(F:Env)(l:List a0):mJ F l=l.map (ev F):=by induction l with|nil=>rfl|cons x l ih=>simp[mJ,ih]
def nth{α:Type}:List α->Nat->Option α
 | [],_=>U
 | x :: _,0=>G x
 | _ :: l,n+1=>nth l n
def MC(n:Nat)(i:Nat):Option (Nat × Nat):=G (i*n,n)
def WE(place:Nat->Option (Nat × Nat)):List D->List (Nat × D)->Option (List D)
 | cs,[]=>G cs
 | cs,(i,v) :: l=>match place i with
  | some (o,s)=>if (cl v).length=s/\o+s<=(M cs) then WE place (Xd cs o (cl v)) l else U
  | none=>U
def d7(F:Env):List (Nat × a0)->List (Nat × D)
 | []=>[]
 | (i,x) :: l=>(i,ev F x) :: d7 F l
def I5(n:Option Nat)(z:List D)(parts:List (Nat × D))(K:D->Hp->Prop)(h:Hp):Prop:=
 match n with|some n=>Hz (WE (MC n) z parts) K h|none=>False
def NJ(z:Option (List D))(pl:Option (List (Nat × Nat)))(arr:Option (Nat × O))(n:O->Option Nat)(parts:List (Nat × D))(K:D->Hp->Prop)(h:Hp):Prop:=
 match z,pl,arr with
 | some z,G pl,U=>Hz (WE (nth pl) z parts) K h
 | some z,U,G (_,e)=>I5 (n e) z parts K h
 | _,_,_=>False
def Qa:Nat->List D->List D
 | 0,_=>[]
 | n+1,z=>z++Qa n z
def d8:Nat->List (Nat × D)->Option (List D)
 | _,[]=>G []
 | k,(i,v) :: l=>if i=k/\YN v=true then (d8 (k+1) l).map (v :: ·) else U
def j5(e:O)(len:Nat)(x:Option (List D))(K:D->Hp->Prop)(h:Hp):Prop:=
 match x with|some l=>K (Z (G ⟨h.size,0,U⟩) len len) (h.push (Y l.toArray e))|none=>False
def I6(n len:Nat)(z:List D)(parts:List (Nat × D)):Option (List D):=
 if n=1/\(M parts)=len then d8 0 parts else WE (MC n) (Qa len z) parts
def Oy(e:O)(n:Option Nat)(z:Option (List D))(len:Nat)(parts:List (Nat × D))(K:D->Hp->Prop)(h:Hp):Prop:=
 match n,z with
 | some n,G z=>if (M z)=n/\len*n<=16777216 then j5 e len (I6 n len z parts) K h else False
 | _,_=>False
def MD(e:Option O)(n:O->Option Nat)(z:O->Option (List D))(len:Nat)(parts:List (Nat × D))(K:D->Hp->Prop)(h:Hp):Prop:=
 match e with
 | some e=>Oy e (n e) (z e) len parts K h
 | none=>False
def KH(a:Option Bool)(n:Option Nat)(cs:List D)(o:Nat)(K:D->Hp->Prop)(h:Hp):Prop:=
 match a,n with
 | some true,G n=>K (aw ((cs.drop o).take n).toArray) h
 | some false,_=>IK (nth cs o) K h
 | _,_=>False
def ua(f:Option (Nat × O))(a:O->Option Bool)(n:O->Option Nat)(x:D)(K:D->Hp->Prop)(h:Hp):Prop:=
 match f,x with
 | some (o,t),aw cs=>KH (a t) (n t) cs.toList o K h
 | _,_=>False
def j6(m:Option Nat)(a:Option Bool)(len:Nat)(cs:List D)(i:Int)(K:D->Hp->Prop)(h:Hp):Prop:=
 match m with|some m=>if 0<=i/\i<(len:Int) then KH a (G m) cs (i.toNat*m) K h else False|none=>False
def mK(arr:Option (Nat × O))(str:Bool)(a:O->Option Bool)(n:O->Option Nat)(x i:D)(K:D->Hp->Prop)(h:Hp):Prop:=
 match i with
 | .int _ i=>(match arr,str,x with
  | some (len,e),false,aw cs=>j6 (n e) (a e) len cs.toList i K h
  | none,true,.string s=>if 0<=i/\i<(s.size:Int) then K (.int .u8 ((s.data.toList.getD i.toNat 0).toNat:Nat)) h else False
  | _,_,_=>False)
 | _=>False
def sb(x:Option D)(d y:Nat):Option Nat:=
 match x with
 | none=>G d
 | some (.int _ i)=>if 0<=i/\i<=(y:Int) then G i.toNat else U
 | _=>U
def j7(F:Env):Option a0->Option D
 | none=>U
 | some x=>G (ev F x)
def RY(n:Option Nat)(a:Option Addr)(len cap:Nat)(lo hi:Option D)(K:D->Hp->Prop)(h:Hp):Prop:=
 match n,sb hi len cap with
 | some n,G b=>(match sb lo 0 b with
  | some l=>K (Z (if cap=l then a else a.map (·.add (l*n))) (b-l) (cap-l)) h
  | none=>False)
 | _,_=>False
def FY(arr:Option (Nat × O))(sl:Option O)(str:Bool)(n:O->Option Nat)(x:D)(lo hi mx:Option D)(K:D->Hp->Prop)(h:Hp):Prop:=
 match mx,x,arr,sl,str with
 | some mv,Z a len cap,U,G e,_=>(match hi,sb (G mv) 0 cap with
  | some hv,G m=>RY (n e) a len m lo (G hv) K h
  | _,_=>False)
 | none,Z a len cap,U,G e,_=>RY (n e) a len cap lo hi K h
 | none,J (G a),G (len,e),U,_=>RY (n e) (G a) len len lo hi K h
 | none,.string s,U,U,true=>(match sb hi s.size s.size with
  | some b=>(match sb lo 0 b with|some l=>K (.string (s.extract l b)) h|none=>False)
  | none=>False)
 | _,_,_,_,_=>False
def Zbn(e:O)(n:Option Nat)(by':Option Nat)(z:Option (List D))(l c:Int)(K:D->Hp->Prop)(h:Hp):Prop:=
 match n,by',z with
 | some n,G bytes,G z=>if (M z)=n/\0<=l/\l<=c/\c<=9223372036854775807/\(bytes:Int)*c<=281474976710656 then K (Z (G ⟨h.size,0,U⟩) l.toNat c.toNat) (h.push (Y (Qa c.toNat z).toArray e)) else False
 | _,_,_=>False
def vMk(e:Option O)(n by':O->Option Nat)(z:O->Option (List D))(l c:D)(K:D->Hp->Prop)(h:Hp):Prop:=
 match e,l,c with
 | some e,.int _ l,.int _ c=>Zbn e (n e) (by' e) (z e) l c K h
 | _,_,_=>False
def TL(op:Op)(ty:O)(K:D->Hp->Prop)(F:Env)(h:Hp):Prop:=
 match op with
 | .move x|.assign x=>K (ev F x) h
 | .pick c a b=>EE (ev F c) (ev F a) (ev F b) K h
 | .alloc e=>t9 (tz P e) e K h
 | .box e x=>t9 (G (cl (ev F x))) e K h
 | .load t a=>MA (ta P t) (tn P t) (ev F a) K h
 | .store t a x=>Va (tn P t) (ev F a) (ev F x) K h
 | .fieldAddr t x i=>NH (tf P t i) (ev F x) K h
 | .indexAddr t x i=>vIx (Xv P t) (QE P t) (tn P) (ev F x) (ev F i) K h
 | .nilCheck x=>dZ (ev F x) K h
 | .binOp op t x y _=>XS P op t x y (ev F x) (ev F y) K h
 | .unOp op _ x=>vUn P op (ev F x) K h
 | .convert s d x=>MB P s d (ev F x) K h
 | .extract x i=>WD (ev F x) i K h
 | .makeFunc fn first captured=>K (.func fn (mJ F first.toList).toArray (mJ F captured.toList).toArray) h
 | .call ⟨.value f,args,_⟩=>HC P T (ev F f) (mJ F args.toList) K h
 | .call ⟨.builtin b,args,ts⟩=>Ps P T b ts ty (args.map fun|.const _=>true|_=>false) (mJ F args.toList) K h
 | .build t parts=>NJ (tz P t) (NF P t) (Xv P t) (tn P) (d7 F parts.toList) K h
 | .buildSlice t len parts=>MD (QE P t) (tn P) (tz P) len (d7 F parts.toList) K h
 | .field t x i=>ua (tfl P t i) (ta P) (tn P) (ev F x) K h
 | .index t x i=>mK (Xv P t) (W0 P t) (ta P) (tn P) (ev F x) (ev F i) K h
 | .slice t x lo hi mx=>FY (Xv P t) (QE P t) (W0 P t) (tn P) (ev F x) (j7 F lo) (j7 F hi) (j7 F mx) K h
 | .makeSlice t l c=>vMk (QE P t) (tn P) (tb P) (tz P) (ev F l) (ev F c) K h
 | op=>EB P T ⟨U,op,ty, "", #[],U⟩ K F h
end
section
variable {P:aa} {T:al} {K:D->Hp->Prop} {F:Env} {h:Hp} {ty:O}
theorem eE{Q:aa->Hp->Prop}:hw P program Q h=Q P h:=rfl
theorem ZO{Q:α->Hp->Prop}(a:α):hw P (pure a) Q h=Q a h:=rfl
theorem X0{d:TypeInfo}(hd:P.info? t=G d){Q:TypeInfo->Hp->Prop}:hw P (typeInfo t) Q h=Q d h:=by
 simp only[typeInfo];rw[Zj];simp only[program,hw];rw[hd];rfl
theorem ZM{d:TypeDesc}(hd:P.underlying t=G d){Q:TypeDesc->Hp->Prop}:hw P (underlying t) Q h=Q d h:=by
 simp only[underlying];rw[Zj];simp only[program,hw];rw[hd];rfl
theorem run_sizeOf(hn:tn P t=G n){Q:Nat->Hp->Prop}:hw P (sizeOf t) Q h=Q n h:=by
 unfold tn at hn
 cases hi:P.info? t with
 | none=>rw[hi]at hn;cases hn
 | some i=>
  rw[hi]at hn;simp only[aF,Option.some.injEq]at hn;subst hn;unfold sizeOf;rw[Zj,X0 hi];rfl
theorem VJ{b:Bool}(hb:ta P t=G b){Q:Bool->Hp->Prop}:hw P (isAgg t) Q h=Q b h:=by
 unfold ta at hb
 cases hi:P.underlying t with
 | none=>rw[hi]at hb;cases hb
 | some d=>
  rw[hi]at hb;simp only[aF,Option.some.injEq]at hb;subst hb;unfold isAgg;rw[Zj,ZM hi]
  cases d<;>rfl
theorem XL(b o n:Nat):Addr.add ⟨b,o,U⟩ n=⟨b,o+n,U⟩:=by
 unfold Addr.add;split
 .rename_i h;subst h;rfl
 .rfl
theorem Oz(a:Addr)(n:Nat)(ha:a.spot=U):a.add n=⟨a.block,a.off+n,U⟩:=by
 obtain⟨b,o,s⟩:=a;simp only at ha;subst ha;exact XL b o n
theorem run_loadCells(a:Addr)(c:List D){Q:Array D->Hp->Prop}:∀(n i:Nat) (acc:Array D),
  (∀j,j<n->hc h (a.add (i+j))=G (c.getD j undef))->n=(M c)->Q (acc++c.toArray) h->hw P (loadCellsFrom a i n acc) Q h:=by
 induction c with
 | nil=>intro n i acc _ hn H;subst hn;simpa [loadCellsFrom,pure,hw] using H
 | cons v c ih=>
  intro n i acc hj hn H;subst hn;show hw P (load (a.add i) >>= fun v=>loadCellsFrom a (i+1) (M c) (acc.push v)) Q h;rw[Zj];refine⟨v,by simpa using hj 0 sW,?_⟩;refine ih _ (i+1) _ (fun j eG=>?_) rfl ?_
  .have:=hj (j+1) vI;have e:i+(j+1)=i+1+j:=mD;rw[e]at this
   simpa using this
  .simpa using H
theorem eI(H:MA (ta P t) (tn P t) v K h):hw P (Instr.loadAt t v) K h:=by
 unfold MA at H;split at H
 .rename_i a;unfold Instr.loadAt;rw[Zj];show hw P (loadVar t a) K h;unfold loadVar;rw[Zj];split at H
  .rename_i hs;rw[VJ hs];unfold IK at H;split at H
   .rename_i v hv;exact⟨v,hv,H⟩
   .exact H.elim
  .rename_i n hs hn;rw[VJ hs];simp only[if_true];rw[Zj,run_sizeOf hn,Zj];unfold Hz at H;split at H
   .rename_i l hl;unfold rd at hl;split at hl
    .rename_i c e fr hb;split at hl
     .rename_i ME;obtain⟨h1,h2⟩:=ME;simp only[Option.some.injEq]at hl;subst hl;have hlen:((c.toList.drop a.off).take n).length=n:=vI;refine run_loadCells a _ n 0 #[] (fun j hj=>?_) hlen.symm (by simpa [ZO] using H);rw[Oz a _ h1];unfold hc;rw[hb];simp only[bz,aU,if_false];rw[bA,List.getElem?_take,if_pos hj,List.getElem?_drop];have e:a.off+(0+j)=a.off+j:=mD;rw[e];simp;rw[ba mD];rfl
     .cases hl
    .cases hl
   .exact H.elim
  .exact H.elim
 .exact H.elim
theorem run_store{Q:Unit->Hp->Prop}:hw P (store a v) Q h=(YN v=true/\(∃u,hc h a=G u)/\j2 h a=false/\Q () (mE h a v)):=rfl
theorem Zbo{c:Array D}{fr:Nat × Nat}(hb:h[a.block]? = G (Y c e fr))(hs:a.spot=U)(v:D):
  mE h a v=h.setIfInBounds a.block (Y (c.setIfInBounds a.off v) e fr):=by
 obtain⟨ZV,eJ⟩:=aX.1 hb;unfold mE;apply a6;intro i;rw[Array.getElem?_modify,an];by_cases hi:a.block=i
 .subst hi;simp[eJ,hs,ZV]
 .simp[hi]
theorem SE(l:List D)(n:Nat)(v:D)(vs:List D):Xd l n (v :: vs)=Xd (l.set n v) (n+1) vs:=by
 induction l generalizing n with
 | nil=>cases vs<;>simp[Xd]
 | cons x l ih=>
  cases n with
  | zero=>
   simp only[Xd,ck]
   cases vs with
   | nil=>simp[Xd]
   | cons u us=>simp[Xd]
  | succ n=>
   simp only[Xd,cn];rw[ih]
   cases vs with
   | nil=>simp[Xd]
   | cons u us=>simp[Xd]
theorem YZ{lo hi:Nat}{Q:Unit->Hp->Prop}(hs:a.spot=U)(ZpF:hi<=lo):∀(vs:List D) (i:Nat) (h:Hp) (c:Array D),
  h[a.block]? = G (Y c e (lo,hi))->a.off+i+(M vs)<=c.size->vs.all YN=true ->
  Q () (h.setIfInBounds a.block (Y (Xd c.toList (a.off+i) vs).toArray e (lo,hi)))->hw P (storeCells a vs i) Q h
 | [],i,h,c,hb,_,_,H=>by
  have e:h.setIfInBounds a.block (Y (Xd c.toList (a.off+i) []).toArray e (lo,hi))=h:=by
   have ZV:=(aX.1 hb).1;apply a6;intro j;rw[an];by_cases hj:a.block=j
   .subst hj;rw[if_pos rfl,if_pos ZV,hb];simp[Xd]
   .simp[hj]
  rw[e]at H;exact H
 | v :: vs,i,h,c,hb,hlen,X1,H=>by
  simp only[bk,au]at X1;simp only[a9]at hlen;show hw P (store (a.add i) v >>= fun _=>storeCells a vs (i+1)) Q h;rw[Zj,run_store,Oz a i hs];have ZV:a.block<h.size:=(aX.1 hb).1;refine⟨X1.1,?_,?_,?_⟩
  .unfold hc;simp only[hb];refine⟨c[a.off+i]'mD,?_⟩;simp only[bz,aU,if_false];rw[ba mD]
  .unfold j2;simp only[hb];simp;omega
  .have JU:h[({ block:=a.block,off:=a.off+i,spot:=U }:Addr).block]? = G (Y c e (lo,hi)):=hb;rw[Zbo JU rfl];have EF:(h.setIfInBounds a.block (Y (c.setIfInBounds (a.off+i) v) e (lo,hi)))[a.block]? = G (Y (c.setIfInBounds (a.off+i) v) e (lo,hi)):=by
    simp[ZV]
   refine YZ hs ZpF vs (i+1) _ _ EF vI X1.2 ?_;have e2:(h.setIfInBounds a.block (Y (c.setIfInBounds (a.off+i) v) e (lo,hi))).setIfInBounds a.block
     (Y (Xd (c.setIfInBounds (a.off+i) v).toList (a.off+(i+1)) vs).toArray e (lo,hi)) =
     h.setIfInBounds a.block (Y (Xd c.toList (a.off+i) (v :: vs)).toArray e (lo,hi)):=by
    rw[SE,a7];rw[Array.setIfInBounds_setIfInBounds,cg]
   rw[e2];exact H
theorem BO{p:D}(H:Va (tn P t) p v K h):hw P (Instr.storeAt t p v) (fun _ h=>K undef h) h:=by
 unfold Va at H;split at H
 .rename_i a n hn;unfold Instr.storeAt;rw[Zj];show hw P (storeVar t a v) _ h;unfold storeVar;split at H
  .rename_i hlen;have hsz:v.cells.size=n:=by rw[<-Mz,hlen];simp
   rw[Zj,run_sizeOf hn];simp only[hsz,ne_eq,not_true_eq_false,if_false];show hw P (storeCells a v.cells.toList) _ h;split at H
   .rename_i cs;unfold j4 at H;split at H
    .rename_i h' hh;unfold wr at hh;split at hh
     .rename_i c e lo hi hb;split at hh
      .rename_i Zfj;obtain⟨h1,h2,h3,h4⟩:=Zfj;simp only[Option.some.injEq]at hh;subst hh;exact YZ h1 h3 cs.toList 0 h c hb h2 h4 H
      .cases hh
     .cases hh
    .exact H.elim
   .rename_i hna;have Zfk:v.cells.toList=[v]:=by cases v<;>first|rfl|exact (hna _ rfl).elim
    rw[Zfk];unfold j4 at H;split at H
    .rename_i h' hh;unfold QF at hh;split at hh
     .rename_i c e lo hi hb;split at hh
      .rename_i Zfj;obtain⟨h1,h2,h3,h4⟩:=Zfj;simp only[Option.some.injEq]at hh;subst hh;refine YZ h1 h3 [v] 0 h c hb vI (by simpa using h4) ?_;have e1:(Xd c.toList (a.off+0) [v]).toArray=c.setIfInBounds a.off v:=by
        rw[SE,cq];apply b1.1;rw[a7]
        cases h9:(c.toList.set a.off v)<;>simp[Xd]
       rw[e1];exact H
      .cases hh
     .cases hh
    .exact H.elim
  .exact H.elim
 .exact H.elim
theorem BP{p:D}(H:NH (tf P t i) p K h):hw P (Instr.fieldAt t p i) K h:=by
 unfold NH at H;split at H
 .rename_i o a hf;unfold tf at hf;split at hf
  .rename_i fs hu;unfold Instr.fieldAt;rw[Zj,ZM hu]
   cases BQ:fs[i]? with
   | none=>rw[BQ]at hf;cases hf
   | some f=>
    rw[BQ]at hf;simp only[am]at hf;split at hf
    .rename_i m hm;simp only[Option.some.injEq]at hf;subst hf;simp only[BQ];simp only[Instr.sureAddr,fieldPlace,Zj,ZO,run_sizeOf hm,if_neg (Nat.succ_ne_zero m)];exact H
    .cases hf
  .cases hf
 .exact H.elim
theorem ub{p i:D}(H:vIx (Xv P t) (QE P t) (tn P) p i K h):hw P (Instr.indexAt t p i) K h:=by
 unfold vIx at H;split at H
 .rename_i k i;split at H
  .rename_i len e a ha hs;split at H
   .rename_i n hn;unfold Xv at ha;split at ha
    .rename_i m e' hu;simp only[Option.some.injEq,Prod.mk.injEq]at ha;obtain⟨rfl,rfl⟩:=ha;split at H
     .rename_i hb;simp only[Instr.indexAt,asIntOf,Instr.sureAddr,Zj,ZO,ZM hu,if_pos hb,run_sizeOf hn];exact H
     .exact H.elim
    .cases ha
   .exact H.elim
  .rename_i e a len cap ha hs;split at H
   .rename_i n hn;unfold QE at hs;split at hs
    .rename_i e' hu;simp only[Option.some.injEq]at hs;subst hs;split at H
     .rename_i hb;simp only[Instr.indexAt,asIntOf,Instr.sureAddr,Zj,ZO,ZM hu,if_pos hb,run_sizeOf hn];exact H
     .exact H.elim
    .cases hs
   .exact H.elim
  .exact H.elim
 .exact H.elim
theorem FZ(H:WD v i K h):hw P (Instr.extract v i) K h:=by
 unfold WD at H;split at H
 .rename_i vs;unfold IK at H;split at H
  .rename_i v hv;simp only[Instr.extract,hv];exact H
  .exact H.elim
 .exact H.elim
theorem eQ{f:D}{c:Call}{args:List D}(hc:c.callee=.value x)(hf:ev F x=f)(ha:(c.args.map (ev F)).toList=args)(H:HC P T f args K h):
  hw P (do let d <-resolve (ev F) c ty;invoke d.target d.args) (Jr P T K) h:=by
 unfold HC at H;split at H
 .rename_i f first captured;have e:first++c.args.map (ev F)++captured=(first.toList++args++captured.toList).toArray:=by rw[<-ha];simp
  by_cases hg:goes P f=true
  case neg=>
   rw[if_neg hg]at H;simp only[resolve,hc,hf,Deferred.ofValue,Zj,ZO,invoke];rw[e];exact H
  rw[if_pos hg]at H;unfold goes at hg;split at hg
  .rename_i fn hfn;simp only[au,Bool.not_eq_true']at hg;have Zi3:fn.body.isNone=false:=by
    cases hb:fn.body with
    | none=>rw[hb]at hg;simp at hg
    | some _=>rfl
   simp only[resolve,hc,hf,Deferred.ofValue,Zj,ZO,invoke,callFunc,eE,hfn,hg.1,aU,if_false,Zi3];rw[e];exact H
  .cases hg
 .exact H.elim
theorem I7{z:List D}(hz:tz P t=G z):∃v,v.cells=z.toArray/\∀{Q:D->Hp->Prop} {h:Hp},hw P (zeroValue t) Q h=Q v h:=by
 unfold tz at hz
 cases hi:P.info? t with
 | none=>rw[hi]at hz;cases hz
 | some i=>
  rw[hi]at hz
  cases I8:i.zero with
  | none=>rw[am,I8]at hz;cases hz
  | some v=>
   rw[am,I8]at hz;simp only[aF,Option.some.injEq]at hz;refine⟨v,by rw[<-hz,cc],fun {Q h}=>?_⟩;unfold zeroValue;rw[Zj,X0 hi];simp only[I8];rfl
theorem EG(off:Nat):∀(vs:List D) (k:Nat) (cells:Array D),
  ((vs.zipIdx k).foldl (fun (cs:Array D) (x:D × Nat)=>cs.setIfInBounds (off+x.2) x.1) cells).toList=Xd cells.toList (off+k) vs
 | [],k,cells=>by cases h:cells.toList<;>simp[Xd,h]
 | v :: vs,k,cells=>by
  rw[List.zipIdx_cons,List.foldl_cons,EG off vs (k+1),SE,a7,cg]
theorem I9:∀(parts:List (Nat × D)) (cs:List D) (uc:List D),WE place cs parts=G uc->Instr.fill place cs.toArray parts=G uc.toArray
 | [],cs,uc,h=>by simp only[WE,Option.some.injEq]at h;subst h;rfl
 | (i,v) :: l,cs,uc,h=>by
  unfold WE at h;unfold Instr.fill
  cases hp:place i with
  | none=>rw[hp]at h;cases h
  | some os=>
   obtain⟨o,s⟩:=os;rw[hp]at h;simp only at h ⊢;split at h
   .rename_i hc;have hsz:v.cells.size=s:=by rw[<-Mz];simpa using hc.1
    have ME:¬((decide (v.cells.size≠s)||decide (o+v.cells.size>cs.toArray.size))=true):=by
     rw[hsz];simp;omega
    rw[if_neg ME];have e:(v.cells.zipIdx.foldl (fun (cs:Array D) (x:D × Nat)=>cs.setIfInBounds (o+x.2) x.1) cs.toArray)=(Xd cs o (cl v)).toArray:=by
     apply b1.1;have:=EG o (cl v) 0 cs.toArray;rw[<-Mz,c0,<-Array.foldl_toList];have e3:(cl v).mapIdx (fun i a=>(a,i))=(cl v).zipIdx 0:=by
      apply List.ext_getElem?;intro i;simp[List.getElem?_zipIdx]
     simpa [c0,e3] using this
    have key:=I9 l _ _ h;rw[<-e]at key;exact key
   .cases h
theorem Y7(l:List α)(n:Nat):nth l n=l[n]?:=by
 induction l generalizing n with
 | nil=>simp[nth]
 | cons x l ih=>cases n<;>simp[nth,ih]
theorem j8(F:Env)(l:List (Nat × a0)):d7 F l=l.map fun x=>(x.1,ev F x.2):=by
 induction l with
 | nil=>rfl
 | cons x l ih=>obtain⟨i,x⟩:=x;simp[d7,ih]
theorem run_places:∀(l:List Field) (Q:List (Nat × Nat)->Hp->Prop) (pl:List (Nat × Nat)),l.mapM (fun f:Field=>(tn P f.type).map fun n=>(f.offset,n))=G pl ->
  Q pl h->hw P (l.mapM fun f:Field=>do pure (f.offset,<-sizeOf f.type)) Q h
 | [],Q,pl,hp,H=>by
  simp only[cS,pure,Option.some.injEq]at hp;subst hp;exact H
 | f :: l,Q,pl,hp,H=>by
  rw[bx]at hp
  cases hn:tn P f.type with
  | none=>rw[hn]at hp;cases hp
  | some n=>
   rw[hn]at hp
   cases hl:l.mapM (fun f:Field=>(tn P f.type).map fun n=>(f.offset,n)) with
   | none=>simp[hl]at hp
   | some pl'=>
    simp[hl]at hp;subst hp;rw[bx,Zj,Zj,run_sizeOf hn];show hw P (_ >>= _) Q h;rw[Zj];exact run_places l _ pl' hl H
theorem BR{parts:Array (Nat × a0)}(H:NJ (tz P t) (NF P t) (Xv P t) (tn P) (d7 F parts.toList) K h):hw P (Instr.build t (parts.map fun (i,x)=>(i,ev F x))) K h:=by
 have e1:(parts.map fun (i,x)=>(i,ev F x)).toList=d7 F parts.toList:=by rw[j8,bh]
 unfold Instr.build;rw[e1];unfold NJ at H;split at H
 .rename_i z pl hz HD _;obtain⟨v,hv,Zfl⟩:=I7 hz;rw[Zj,Zfl,Zj,hv];unfold NF at HD;split at HD
  .rename_i fs hu;rw[ZM hu];simp only;rw[Zj,<-cc (xs:=fs),cp,map_eq_pure_bind,Zj];refine run_places fs.toList _ pl HD ?_;unfold Hz at H;split at H
   .rename_i cs XH;have e2:(fun i=>pl.toArray[i]?)=nth pl:=by funext i;rw[Y7];simp
    have:=I9 _ _ _ XH;rw[<-e2]at this;simp only[ZO,this];exact H
   .exact H.elim
  .cases HD
 .rename_i z n e hz _ ha;obtain⟨v,hv,Zfl⟩:=I7 hz;rw[Zj,Zfl,Zj,hv];unfold Xv at ha;split at ha
  .rename_i n' e' hu;simp only[Option.some.injEq,Prod.mk.injEq]at ha;obtain⟨rfl,rfl⟩:=ha;rw[ZM hu];simp only;unfold I5 at H;split at H
   .rename_i m hm;rw[Zj,run_sizeOf hm];unfold Hz at H;split at H
    .rename_i cs XH;have:=I9 _ _ _ XH;have e2:(fun i=>G (i*m,m))=MC m:=rfl;rw[e2];simp only[this];exact H
    .exact H.elim
   .exact H.elim
  .cases ha
 .exact H.elim
theorem j9(z:List D)(hz:z≠[]):∀(len:Nat),(bG (len*(M z))).map (fun j=>z.toArray[j%z.toArray.size]!)=(Qa len z).toArray:=by
 have HE:0<(M z):=bp.2 hz;have hlen:∀len,(Qa len z).length=len*(M z):=by
  intro len
  induction len with
  | zero=>simp[Qa]
  | succ n ih=>simp[Qa,ih,bd,cr]
 have eJ:∀len j,j<len*(M z)->(Qa len z)[j]? = z[j%(M z)]?:=by
  intro len
  induction len with
  | zero=>intro j hj;simp at hj
  | succ n ih=>
   intro j hj;simp only[Qa];by_cases eG:j<(M z)
   .rw[bD eG,a3 eG]
   .rw[List.getElem?_append_right mD,ih (j-(M z)) (by rw[bd]at hj;omega)];rw[Nat.mod_eq_sub_mod (by omega:j ≥ (M z))]
 intro len;apply a6;intro j;by_cases hj:j<len*(M z)
 .have ZpG:j%(M z)<(M z):=Nat.mod_lt _ HE;simp[hj,eJ len j hj,ZpG]
 .have h2:(Qa len z)[j]? = U:=List.getElem?_eq_none (by rw[hlen];omega);simp[hj,h2]
theorem Pz(z:List D):∀n,(Qa n z).length=n*(M z):=by
 intro len
 induction len with
 | zero=>simp[Qa]
 | succ n ih=>simp[Qa,ih,bd,cr]
theorem EH:∀(parts:List (Nat × D)) (pre vs rest:List D),d8 (M pre) parts=G vs->(M rest)=(M parts)->WE (MC 1) (pre++rest) parts=G (pre++vs)
 | [],pre,vs,rest,h,hl=>by
  simp only[d8,Option.some.injEq]at h;subst h;have:rest=[]:=aI (by simpa using hl);simp[WE,this]
 | (i,v) :: l,pre,vs,rest,h,hl=>by
  unfold d8 at h;split at h
  .rename_i hc;obtain⟨rfl,hv⟩:=hc
   cases hs:d8 ((M pre)+1) l with
   | none=>rw[hs]at h;cases h
   | some us=>
    rw[hs]at h;simp only[aF,Option.some.injEq]at h;subst h
    cases rest with
    | nil=>simp at hl
    | cons r rest=>
     have Vb:cl v=[v]:=by cases v<;>first|rfl|(simp[YN]at hv)
     have e1:Xd (pre++r :: rest) (M pre) [v]=(pre++[v])++rest:=by
      rw[SE];simp[Xd]
     have ih:=EH l (pre++[v]) us rest (by simpa using hs) (by simpa using hl);simp only[WE,MC,Vb,Nat.mul_one,a9,cF,bc];rw[if_pos sW,e1,ih];simp
  .cases h
theorem F0{parts:Array (Nat × a0)}(H:MD (QE P t) (tn P) (tz P) len (d7 F parts.toList) K h):hw P (Instr.buildSlice t len (parts.map fun (i,x)=>(i,ev F x))) K h:=by
 have e1:(parts.map fun (i,x)=>(i,ev F x)).toList=d7 F parts.toList:=by rw[j8,bh]
 unfold Instr.buildSlice;rw[e1];unfold MD at H;split at H
 .rename_i e he;unfold QE at he;split at he
  .rename_i e' hu;simp only[Option.some.injEq]at he;subst he;unfold Oy at H;split at H
   .rename_i n z hn hz;split at H
    .rename_i hc;obtain⟨dH,hle⟩:=hc;unfold j5 at H;split at H
     .rename_i l hl;have Zi4:WE (MC n) (Qa len z) (d7 F parts.toList)=G l:=by
       unfold I6 at hl;split at hl
       .rename_i hc;obtain⟨rfl,HD⟩:=hc;have:=EH (d7 F parts.toList) [] l (Qa len z) hl (by rw[Pz,dH,HD,Nat.mul_one])
        simpa using this
       .exact hl
      rw[Zj,ZM hu];simp only;rw[Zj,run_sizeOf hn,if_neg mD];have fin:∀z':Array D,(bG (len*n)).map (fun j=>z'[j%z'.size]!)=(Qa len z).toArray->hw P (match Instr.fill (fun i=>G (i*n,n)) ((bG (len*n)).map (fun j=>z'[j%z'.size]!)) (d7 F parts.toList) with
        | some cells=>do
         let a <-newRow e' cells
         pure (Value.slice (G a) len len)
        | x=>stuck "buildSlice: a part of the wrong size") K h:=by
       intro z' BS;have:=I9 _ _ _ Zi4;have e2:(fun i=>G (i*n,n))=MC n:=rfl;rw[e2,BS];simp only[this];exact H
      split
      .rename_i h0;refine fin #[] ?_;have:(Qa len z).length=0:=by rw[Pz,dH,h0]
       rw[aI this,h0];simp
      .rename_i h0;obtain⟨v,hv,hr⟩:=I7 hz;rw[Zj,hr];refine fin v.cells ?_;have:z≠[]:=by intro e;subst e;simp at dH;subst dH;simp at h0
       rw[hv,<-dH];exact j9 z this len
     .exact H.elim
    .exact H.elim
   .exact H.elim
  .cases he
 .exact H.elim
theorem HF{cs:Array D}(H:KH (ta P t) (tn P t) cs.toList o K h):hw P (part t cs o) K h:=by
 unfold KH at H;unfold part;rw[Zj];split at H
 .rename_i n ha hn;rw[VJ ha,if_pos rfl,Zj,run_sizeOf hn];have e:(cs.extract o (o+n))=((cs.toList.drop o).take n).toArray:=by
   apply b1.1;simp[List.extract_eq_take_drop]
  rw[e];exact H
 .rename_i ha;rw[VJ ha,if_neg sW];unfold IK at H;split at H
  .rename_i v hv;rw[Y7]at hv;have:cs[o]? = G v:=by rw[<-b8];exact hv
   simp only[this];exact H
  .exact H.elim
 .exact H.elim
theorem mL{x:D}(H:ua (tfl P t i) (ta P) (tn P) x K h):hw P (Instr.field t x i) K h:=by
 unfold ua at H;split at H
 .rename_i o ft cs hf;unfold tfl at hf;split at hf
  .rename_i fs hu;unfold Instr.field;rw[Zj,ZM hu]
   cases BQ:fs[i]? with
   | none=>rw[BQ]at hf;cases hf
   | some f=>
    rw[BQ]at hf;simp only[aF,Option.some.injEq,Prod.mk.injEq]at hf;obtain⟨rfl,rfl⟩:=hf;simp only[BQ];exact HF H
  .cases hf
 .exact H.elim
theorem mM{x i:D}(H:mK (Xv P t) (W0 P t) (ta P) (tn P) x i K h):hw P (Instr.index t x i) K h:=by
 unfold mK at H;split at H
 .rename_i k i;split at H
  .rename_i len e cs ha _;unfold Xv at ha;split at ha
   .rename_i n' e' hu;simp only[Option.some.injEq,Prod.mk.injEq]at ha;obtain⟨rfl,rfl⟩:=ha;unfold j6 at H;split at H
    .rename_i m hm;split at H
     .rename_i hc;unfold Instr.index;simp only[asIntOf,Zj,ZO,ZM hu,if_pos hc,run_sizeOf hm];exact HF (by rw[hm];exact H)
     .exact H.elim
    .exact H.elim
   .cases ha
  .rename_i s _ hs;unfold W0 at hs;split at hs
   .rename_i hu;split at H
    .rename_i hc;unfold Instr.index;have ZV:i.toNat<s.size:=mD;have e:s[i.toNat]? = G s[i.toNat]:=by exact getElem?_pos s i.toNat ZV
     have e2:s.data.toList.getD i.toNat 0=s[i.toNat]:=by
      have FT:i.toNat<(M s.data.toList):=by simpa using ZV
      rw[bA,a1 FT,Option.getD_some];rfl
     simp only[asIntOf,Zj,ZO,ZM hu,if_pos hc.1,e];rw[e2]at H;exact H
    .exact H.elim
   .cases hs
  .exact H.elim
 .exact H.elim
theorem HG{x:Option D}{y:Nat}{c:BoundsCode}(hx:x=G v)(hs:sb x 0 y=G n){Q:Nat->Hp->Prop}:hw P (Instr.sliceBound v y c) Q h=Q n h:=by
 subst hx;unfold sb at hs;split at hs
 .rename_i he;cases he
 .rename_i k i he;simp only[Option.some.injEq]at he;subst he;split at hs
  .rename_i hc;simp only[Option.some.injEq]at hs;subst hs;unfold Instr.sliceBound;simp only[asIntOf,Zj,ZO,if_pos hc]
  .cases hs
 .cases hs
theorem NK{isS:Bool}{l:Nat}{hi:Option D}(hb:sb hi len cap=G b)(hl:sb lo 0 b=G l){Q:Nat × Nat × Nat->Hp->Prop}(H:Q (l,b,cap) h):hw P (Instr.sliceBounds isS len cap lo hi U) Q h:=by
 have h2:∀{c:BoundsCode},hw P (match lo with
   | some v=>do
    let l <-Instr.sliceBound v b c
    pure (l,b,cap)
   | none=>do
    let l <-pure 0
    pure (l,b,cap)) Q h:=by
  intro c
  cases lo with
  | none=>simp only[sb,Option.some.injEq]at hl;subst hl;exact H
  | some v=>
   simp only;rw[Zj,HG rfl hl];exact H
 unfold Instr.sliceBounds;rw[Zj];show hw P (pure cap) _ h;rw[ZO]
 cases hi with
 | none=>
  simp only[sb,Option.some.injEq]at hb;subst hb;exact h2
 | some v=>
  have JU:sb (G v) 0 cap=G b:=by unfold sb at hb ⊢;cases v<;>simp at hb ⊢<;>exact hb
  simp only;rw[Zj,HG rfl JU];exact h2
theorem BT{isS:Bool}{l:Nat}{hv mv:D}(hm:sb (G mv) 0 cap=G m)(hb:sb (G hv) len m=G b)(hl:sb lo 0 b=G l){Q:Nat × Nat × Nat->Hp->Prop}(H:Q (l,b,m) h):hw P (Instr.sliceBounds isS len cap lo (G hv) (G mv)) Q h:=by
 have JU:sb (G hv) 0 m=G b:=by unfold sb at hb ⊢;cases hv<;>simp at hb ⊢<;>exact hb
 unfold Instr.sliceBounds;rw[Zj];show hw P (Instr.sliceBound mv cap _) _ h;rw[HG rfl hm,Zj,HG rfl JU]
 cases lo with
 | none=>simp only[sb,Option.some.injEq]at hl;subst hl;exact H
 | some v=>
  show hw P (Instr.sliceBound v b _ >>= _) _ h;rw[Zj,HG rfl hl];exact H
theorem mN{x:D}{lo hi mx:Option a0}(H:FY (Xv P t) (QE P t) (W0 P t) (tn P) x (j7 F lo) (j7 F hi) (j7 F mx) K h):hw P (Instr.sliceAt t x (lo.map (ev F)) (hi.map (ev F)) (mx.map (ev F))) K h:=by
 have e:∀o,j7 F o=o.map (ev F):=fun o=>by cases o<;>rfl
 rw[e,e,e]at H;generalize lo.map (ev F)=lo at *;generalize hi.map (ev F)=hi at *;generalize mx.map (ev F)=mx at *;unfold FY at H;split at H
 .rename_i mv a len cap e ha hs;unfold QE at hs;split at hs
  .rename_i e' hu;simp only[Option.some.injEq]at hs;subst hs;split at H
   .rename_i hv m hm;unfold RY at H;split at H
    .rename_i n b hn hb;split at H
     .rename_i l hl;unfold Instr.sliceAt;rw[Zj,ZM hu];simp only;unfold Instr.slice;rw[Zj,ZM hu];simp only;rw[Zj];refine BT hm hb hl ?_;simp only[Zj,run_sizeOf hn,ZO];exact H
     .exact H.elim
    .exact H.elim
   .exact H.elim
  .cases hs
 .rename_i a len cap e ha hs;unfold QE at hs;split at hs
  .rename_i e' hu;simp only[Option.some.injEq]at hs;subst hs;unfold RY at H;split at H
   .rename_i n b hn hb;split at H
    .rename_i l hl;unfold Instr.sliceAt;rw[Zj,ZM hu];simp only;unfold Instr.slice;rw[Zj,ZM hu];simp only;rw[Zj];refine NK hb hl ?_;simp only[Zj,run_sizeOf hn,ZO];exact H
    .exact H.elim
   .exact H.elim
  .cases hs
 .rename_i a len e ha hs;unfold Xv at ha;split at ha
  .rename_i n' e' hu;simp only[Option.some.injEq,Prod.mk.injEq]at ha;obtain⟨rfl,rfl⟩:=ha;unfold RY at H;split at H
   .rename_i n b hn hb;split at H
    .rename_i l hl;unfold Instr.sliceAt;rw[Zj,ZM hu];simp only[Instr.sureAddr,Zj,ZO];refine NK hb hl ?_;simp only[Zj,run_sizeOf hn,ZO];have e3:(if n'=l then G a else (G a).map (·.add (l*n)))=G (if n'=l then a else a.add (l*n)):=by split<;>rfl
     rw[e3]at H;exact H
    .exact H.elim
   .exact H.elim
  .cases ha
 .rename_i s ha hs hst;unfold W0 at hst;split at hst
  .rename_i hu;split at H
   .rename_i b hb;split at H
    .rename_i l hl;unfold Instr.sliceAt;rw[Zj,ZM hu];simp only;unfold Instr.slice;rw[Zj,ZM hu];simp only[bz,aU,if_false];rw[Zj];refine NK hb hl ?_;exact H
    .exact H.elim
   .exact H.elim
  .cases hst
 .exact H.elim
theorem ud{l c:D}(H:vMk (QE P t) (tn P) (tb P) (tz P) l c K h):hw P (Instr.makeSlice t l c) K h:=by
 unfold vMk at H;split at H
 .rename_i e k l k' c he;unfold QE at he;split at he
  .rename_i e' hu;simp only[Option.some.injEq]at he;subst he;unfold Zbn at H;split at H
   .rename_i n bytes z hn OB hz;split at H
    .rename_i hc;obtain⟨dH,h0,hlc,ZBi,Xa⟩:=hc;obtain⟨i0,Ph⟩:∃i,P.info? e'=G i:=by
      unfold tn at hn
      cases hi:P.info? e' with
      | none=>rw[hi]at hn;cases hn
      | some i=>exact⟨i,rfl⟩
     have NL:i0.bytes=bytes:=by unfold tb at OB;rw[Ph]at OB;simpa using OB
     have w1:IntKind.i64.wrap l=l:=cd l ⟨mD,mD⟩;have w2:IntKind.i64.wrap c=c:=cd c ⟨mD,mD⟩;have Zfm:¬((bytes:Int)*c>2 ^ 48):=mD;unfold Instr.makeSlice;simp only[Zj,ZM hu,asInt,asIntOf,ZO,X0 Ph,w1,w2,NL];have ME:¬((decide (c<0)||decide ((bytes:Int)*c>2 ^ 48)||decide (l<0)||decide (l>c))=true):=by
      simp;omega
     rw[if_neg ME];have NM:∀{Q:Unit->Hp->Prop} (b:Nat) (g:Hp),Q () g->hw P (askRoom b) Q g:=fun {Q} b g q=>by
      unfold askRoom;split<;>exact q
     rw[Zj];refine NM _ _ ?_;rw[Zj,run_sizeOf hn];have fin:∀z':Array D,(bG (c.toNat*n)).map (fun j=>z'[j%z'.size]!)=(Qa c.toNat z).toArray->hw P (do
       let a <-newRow e' ((bG (c.toNat*n)).map (fun j=>z'[j%z'.size]!))
       pure (Value.slice (G a) l.toNat c.toNat)) K h:=by
      intro z' BS;rw[BS];exact H
     split
     .rename_i h0;refine fin #[] ?_;have:(Qa c.toNat z).length=0:=by rw[Pz,dH,h0]
      rw[aI this,h0];simp
     .rename_i h0;obtain⟨v,hv,hr⟩:=I7 hz;rw[Zj,hr];refine fin v.cells ?_;have:z≠[]:=by intro e;subst e;simp at dH;subst dH;simp at h0
      rw[hv,<-dH];exact j9 z this c.toNat
    .exact H.elim
   .exact H.elim
  .cases he
 .exact H.elim
theorem BU{op:Op}(H:TL P T op ty K F h):EB P T ⟨U,op,ty, "", #[],U⟩ K F h:=by
 have lift:∀{s:Sem D},hw P s K h->hw P (do pure (Next.value (<-s))) (Jr P T K) h:=fun {s} H=>by rw[Zj];exact H
 unfold TL at H;split at H
 .exact H
 .exact H
 .rename_i c a b;show hw P (do pure (.value (if <-asBool (ev F c) then ev F a else ev F b))) (Jr P T K) h;unfold EE at H;split at H
  .rename_i t ht;rw[ht];cases t<;>exact H
  .exact H.elim
 .rename_i e;refine lift ?_;unfold t9 tz at H;split at H
  .rename_i l hl
   cases hi:P.info? e with
   | none=>rw[hi]at hl;cases hl
   | some i=>
    rw[hi]at hl
    cases hz:i.zero with
    | none=>rw[am,hz]at hl;cases hl
    | some z=>
     rw[am,hz]at hl;simp only[aF,Option.some.injEq]at hl;subst hl;simp only[Instr.alloc,zeroValue,Zj,X0 hi,hz,newVar,newRow,newObj,ZO,hw]
     simpa using H
  .exact H.elim
 .rename_i e x;refine lift ?_;simp only[t9,Mz]at H;simp only[Instr.box,newVar,newRow,newObj,Zj,ZO];exact H
 .exact lift (eI H)
 .refine (?_:hw P (do Instr.storeAt _ _ _;pure Next.skip) (Jr P T K) h);rw[Zj];exact BO H
 .exact lift (BP H)
 .exact lift (ub H)
 .rename_i x;unfold dZ at H;split at H
  .rename_i a hx;show hw P (match ev F x with|.pointer U|.nilIface|.nilFunc=>_|.func (.method name) first captured=>_|x=>_) _ h;rw[hx];exact H
  .rename_i f a b hx;show hw P (match ev F x with|.pointer U|.nilIface|.nilFunc=>_|.func (.method name) first captured=>_|x=>_) _ h;rw[hx];exact H
  .exact H.elim
 .exact lift H
 .exact lift H
 .exact lift H
 .exact lift (FZ H)
 .rename_i fn first captured;refine lift ?_;have e1:∀l:Array a0,l.map (ev F)=(mJ F l.toList).toArray:=fun l=>by rw[DW,<-bh]
  show hw P (Instr.makeFunc fn (first.map (ev F)) (captured.map (ev F))) K h;rw[e1,e1];exact H
 .rename_i f args ts;exact eQ (x:=f) (c:=⟨.value f,args,ts⟩) rfl rfl (by rw[DW];simp) H
 .rename_i b args ts;have e1:args.map (ev F)=(mJ F args.toList).toArray:=by rw[DW,<-bh]
  unfold Ps at H;rw[<-e1]at H;exact H
 .exact lift (BR H)
 .exact lift (F0 H)
 .exact lift (mL H)
 .exact lift (mM H)
 .exact lift (mN H)
 .exact lift (ud H)
 .exact H
theorem Ux{o:Oper}(H:TL P T o.op o.type K F h):EB P T o K F h:=BU H
def U2:List Oper->Env->Nat->D
 | [],_,_=>undef
 | o :: _,F,0=>match o.dst with|some t=>F t|none=>undef
 | _ :: l,F,n+1=>U2 l F n
def JD(v:D)(b:Bool)(A B:Prop):Prop:=match v with|ak c=>if c=b then A else B|_=>B
def MF(P:aa)(T:al)(ops:List Oper)(N:Env->Hp->Prop):List Oper->Env->Hp->Prop
 | [],F,h=>N F h
 | ⟨d,op,ty,_,_,U⟩ :: l,F,h=>TL P T op ty (fun v h'=>MF P T ops N l (YG F d v) h') F h
 | ⟨d,op,ty,_,_,G (j,b)⟩ :: l,F,h=>JD (U2 ops F j) b (TL P T op ty (fun v h'=>MF P T ops N l (YG F d v) h') F h) (MF P T ops N l (YG F d undef) h)
theorem F6(ops:List Oper)(F:Env):∀j,WB ops.toArray F j=match U2 ops F j with|ak b=>G b|_=>U:=by
 intro j;unfold WB;rw[b9]
 induction ops generalizing j with
 | nil=>rfl
 | cons o l ih=>
  cases j with
  | zero=>simp only[b2,am,U2];cases o.dst<;>rfl
  | succ j=>simp only[b3,U2];exact ih j
theorem Jb(ops:List Oper)(F:Env)(d:Option Tmp)(op:Op)(pos:String)(Vc:Array Edge)(j:Nat)(b:Bool){A B:Prop}(H:JD (U2 ops F j) b A B):
  (YW ops.toArray ⟨d,op,ty,pos,Vc,G (j,b)⟩ F=true/\A)\/(YW ops.toArray ⟨d,op,ty,pos,Vc,G (j,b)⟩ F=false/\B):=by
 unfold YW bj;simp only[F6];unfold JD at H;split at H
 .rename_i c hc;split at H
  .rename_i DX;exact .inl ⟨by simp[DX],H⟩
  .rename_i DX;exact .inr ⟨by simpa using DX,H⟩
 .rename_i Xb;refine .inr ⟨?_,H⟩
  cases hv:U2 ops F j<;>first|rfl|exact (Xb _ hv).elim
theorem Uh{op:Op}{K':D->Hp->Prop}(hk:∀v h,K v h->K' v h)(H:TL P T op ty K F h):EB P T ⟨U,op,ty, "", #[],U⟩ K' F h:=Mv hk (BU H)
theorem Vu:∀(l:List Oper) (F:Env) (h:Hp),MF P T ops N l F h->mF P T ops.toArray N l F h
 | [],F,h,H=>H
 | ⟨d,op,ty,pos,Vc,U⟩ :: l,F,h,H=>by
  show (if YW ops.toArray _ F=true then _ else _);rw[if_pos (by rfl)];exact Uh (fun v h' q=>Vu l _ _ q) H
 | ⟨d,op,ty,pos,Vc,G (j,b)⟩ :: l,F,h,H=>by
  show (if YW ops.toArray _ F=true then _ else _);rcases Jb ops F d op pos Vc j b H with⟨hw,H⟩|⟨hw,H⟩
  .rw[if_pos hw];exact Uh (fun v h' q=>Vu l _ _ q) H
  .rw[hw,if_neg sW];exact Vu l _ _ H
def SF(P:aa)(T:al)(ops:List Oper)(S:Hp->Prop)(N:Env->Hp->Prop):List (Nat × Bool × Oper)->Env->Hp->Prop
 | [],F,h=>N F h
 | (_,true,⟨d,op,ty,_,_,U⟩) :: l,F,h=>∃v,(∀h',S h'->TL P T op ty (fun v' II=>v'=v/\II=h') F h')/\SF P T ops S N l (YG F d v) h
 | (_,false,⟨d,op,ty,_,_,U⟩) :: l,F,h=>TL P T op ty (fun v h'=>S h'/\SF P T ops S N l (YG F d v) h') F h
 | (_,true,⟨d,op,ty,_,_,G (j,b)⟩) :: l,F,h=>JD (U2 ops F j) b (∃v,(∀h',S h'->TL P T op ty (fun v' II=>v'=v/\II=h') F h')/\SF P T ops S N l (YG F d v) h) (SF P T ops S N l (YG F d undef) h)
 | (_,false,⟨d,op,ty,_,_,G (j,b)⟩) :: l,F,h=>JD (U2 ops F j) b (TL P T op ty (fun v h'=>S h'/\SF P T ops S N l (YG F d v) h') F h) (SF P T ops S N l (YG F d undef) h)
theorem Ju{S:Hp->Prop}:∀(l:List (Nat × Bool × Oper)) (F:Env) (h:Hp),SF P T ops S N l F h->Mx P T ops.toArray S N l F h
 | [],F,h,H=>H
 | (i,true,⟨d,op,ty,pos,Vc,U⟩) :: l,F,h,H=>by
  show (if YW ops.toArray _ F=true then _ else _);rw[if_pos (by rfl)];obtain⟨v,hv,H⟩:=H;exact⟨v,fun h' hs=>Ux (hv h' hs),Ju l _ _ H⟩
 | (i,false,⟨d,op,ty,pos,Vc,U⟩) :: l,F,h,H=>by
  show (if YW ops.toArray _ F=true then _ else _);rw[if_pos (by rfl)];exact Uh (fun v h' q=>⟨q.1,Ju l _ _ q.2⟩) H
 | (i,true,⟨d,op,ty,pos,Vc,G (j,b)⟩) :: l,F,h,H=>by
  show (if YW ops.toArray _ F=true then _ else _);rcases Jb ops F d op pos Vc j b H with⟨hw,H⟩|⟨hw,H⟩
  .rw[if_pos hw];obtain⟨v,hv,H⟩:=H;exact⟨v,fun h' hs=>Ux (hv h' hs),Ju l _ _ H⟩
  .rw[hw,if_neg sW];exact Ju l _ _ H
 | (i,false,⟨d,op,ty,pos,Vc,G (j,b)⟩) :: l,F,h,H=>by
  show (if YW ops.toArray _ F=true then _ else _);rcases Jb ops F d op pos Vc j b H with⟨hw,H⟩|⟨hw,H⟩
  .rw[if_pos hw];exact Uh (fun v h' q=>⟨q.1,Ju l _ _ q.2⟩) H
  .rw[hw,if_neg sW];exact Ju l _ _ H
theorem VS.Zfn{X:Nat->Env->Hp->Prop}{R:Env->Hp->Prop}{id:Nat}(hm:P.follows .mixedOrders=true)(QZ:SD n ops.toArray ((bg ops.toArray.size).map fun i=>(i,true))=true)(H:SF P T ops (fun h'=>h'=h) N (ops.map fun o=>(0,true,o)) F h):VS P n T (.region id ops.toArray true) N X R F h:=by
 refine VS.quiet hm QZ ?_;have key:∀(l:List Oper) (k:Nat) (F:Env),(∀j,l[j]? = ops[k+j]?)->SF P T ops (fun h'=>h'=h) N (l.map fun o=>(0,true,o)) F h ->
   SF P T ops (fun h'=>h'=h) N (WZ ops.toArray ((cz k (M l)).map fun i=>(i,true))) F h:=by
  intro l
  induction l with
  | nil=>intro k F _ H;exact H
  | cons o l ih=>
   intro k F hl H;have h0:ops[k]? = G o:=by simpa using (hl 0).symm
   have dI:∀j,l[j]? = ops[k+1+j]?:=fun j=>by have:=hl (j+1);simpa [cg,cr 1 j] using this
   have e:WZ ops.toArray ((cz k (o :: l).length).map fun i=>(i,true))=(k,true,o) :: WZ ops.toArray ((cz (k+1) (M l)).map fun i=>(i,true)):=by
    simp[WZ,List.range'_succ,h0]
   rw[e];obtain⟨d,op,ty,pos,Vc,g⟩:=o
   cases g with
   | none=>
    obtain⟨v,hv,H⟩:=H;exact⟨v,hv,ih (k+1) _ dI H⟩
   | some jb=>
    obtain⟨j,b⟩:=jb;simp only[cT,SF]at H ⊢;unfold JD at *;split at H
    .split at H
     .rename_i DX;rw[if_pos DX];obtain⟨v,hv,H⟩:=H;exact⟨v,hv,ih (k+1) _ dI H⟩
     .rename_i DX;rw[if_neg DX];exact ih (k+1) _ dI H
    .exact ih (k+1) _ dI H
 have:=key ops 0 F (fun j=>by simp) H;rw[List.range_eq_range'];exact Ju _ _ _ this
def ue(v:D)(A B:Prop):Prop:=match v with|ak b=>if b=true then A else B|_=>False
def vc(P:aa)(n:Nat)(T:al):Code->(Env->Hp->Prop)->(Nat->Env->Hp->Prop)->(Env->Hp->Prop)->Env->Hp->Prop
 | .skip,N,_,_,F,h=>N F h
 | .ret,_,_,R,F,h=>R F h
 | .exit j,_,X,_,F,h=>X j F h
 | .seq a b,N,X,R,F,h=>vc P n T a (fun F h=>vc P n T b N X R F h) X R F h
 | .cond c a b,N,X,R,F,h=>ue (ev F c) (vc P n T a N X R F h) (vc P n T b N X R F h)
 | .block j c,N,X,R,F,h=>vc P n T c N (fun i F h=>if i=j then N F h else X i F h) R F h
 | .region _ ops false,N,_,_,F,h=>MF P T ops.toList N ops.toList F h
 | c,N,X,R,F,h=>VS P n T c N X R F h
def codeOk(n:Nat):Code->Bool
 | .seq a b=>codeOk n a&&codeOk n b
 | .cond _ a b=>codeOk n a&&codeOk n b
 | .block _ c=>codeOk n c
 | .region _ ops false=>Hv n ops
 | _=>true
theorem Qr:∀(c:Code) (N:Env->Hp->Prop) (X:Nat->Env->Hp->Prop) (R:Env->Hp->Prop) (F:Env) (h:Hp),codeOk n c=true->vc P n T c N X R F h->VS P n T c N X R F h:=by
 intro c
 induction c with
 | skip=>intro N X R F h _ H;exact VS.skip H
 | ret=>intro N X R F h _ H;exact VS.ret H
 | exit j=>intro N X R F h _ H;exact VS.exit H
 | seq a b iha ihb=>
  intro N X R F h QZ H;simp only[codeOk,au]at QZ;exact VS.seq (VS.mono (iha _ _ _ _ _ QZ.1 H) (fun F h q=>ihb _ _ _ _ _ QZ.2 q) (fun _ _ _ q=>q) (fun _ _ q=>q))
 | cond c a b iha ihb=>
  intro N X R F h QZ H;simp only[codeOk,au]at QZ;simp only[vc,ue]at H;split at H
  .rename_i t ht;refine VS.cond ht (fun hb=>?_) (fun hb=>?_)
   .rw[if_pos hb]at H;exact iha _ _ _ _ _ QZ.1 H
   .rw[if_neg (by simp[hb])]at H;exact ihb _ _ _ _ _ QZ.2 H
  .exact H.elim
 | block j c ih=>intro N X R F h QZ H;exact VS.block (ih _ _ _ _ _ QZ H)
 | region id ops draw=>
  intro N X R F h QZ H
  cases draw with
  | true=>exact H
  | false=>exact VS.region QZ (by simpa using Vu _ _ _ H)
 | _=>intro N X R F h _ H;exact H
theorem Zg.Zbq{f:FuncId}{fn:Func}{c:Code}{l:List ResultVar}{args:List D}(hf:P.funcs[f]? = G fn)(hb:fn.body=G c)(hl:fn.results=l.toArray)(hn:cZ (M args) fn.ntmps=true)(QZ:codeOk fn.ntmps c=true)(H:vc P fn.ntmps T c (fun F h'=>Hy P l F Q h') (fun _ _ _=>False) (fun F h'=>Hy P l F Q h') (IH args 0) h):
  Zg P T f args.toArray h Q:=
 Zg.I4 hf hb hl (by simpa using hn) (by simpa using Qr _ _ _ _ _ _ QZ H)
end
section
variable {P:aa} {T:al} {K:D->Hp->Prop} {F:Env} {h:Hp} {ty:O}
def Zbr(P:aa)(T:al)(ops:List Oper)(N:Env->Hp->Prop)(l:List Oper)(F:Env)(d:Option Tmp):D->Hp->Prop:=fun v h=>MF P T ops N l (YG F d v) h
theorem uf{l:List Oper}:Zbr P T ops N l F d v h=MF P T ops N l (YG F d v) h:=rfl
theorem ug:MF P T ops N [] F h=N F h:=rfl
theorem eW{l:List Oper}{op:Op}{pos:String}{Vc:Array Edge}:
  MF P T ops N (⟨d,op,ty,pos,Vc,U⟩ :: l) F h=TL P T op ty (Zbr P T ops N l F d) F h:=rfl
def eY(P:aa)(T:al)(ops:List Oper)(N:Env->Hp->Prop)(l:List Oper)(F:Env)(d:Option Tmp)(op:Op)(ty:O)(v:D)(b:Bool)(h:Hp):Prop:=
 JD v b (TL P T op ty (Zbr P T ops N l F d) F h) (MF P T ops N l (YG F d undef) h)
theorem fa{l:List Oper}{op:Op}{pos:String}{Vc:Array Edge}{j:Nat}{b:Bool}:
  MF P T ops N (⟨d,op,ty,pos,Vc,G (j,b)⟩ :: l) F h=eY P T ops N l F d op ty (U2 ops F j) b h:=rfl
theorem BV{l:List Oper}{op:Op}{b c:Bool}:
  eY P T ops N l F d op ty (.bool c) b h=if c=b then TL P T op ty (Zbr P T ops N l F d) F h else MF P T ops N l (YG F d undef) h:=rfl
def Zi5(P:aa)(n:Nat)(T:al)(b:Code)(N:Env->Hp->Prop)(X:Nat->Env->Hp->Prop)(R:Env->Hp->Prop):Env->Hp->Prop:=fun F h=>vc P n T b N X R F h
def Zi6(j:Nat)(N:Env->Hp->Prop)(X:Nat->Env->Hp->Prop):Nat->Env->Hp->Prop:=fun i F h=>if i=j then N F h else X i F h
def BW:Nat->Env->Hp->Prop:=fun _ _ _=>False
def mO(P:aa)(l:List ResultVar)(Q:D->Hp->Prop):Env->Hp->Prop:=fun F h=>Hy P l F Q h
def Zej(P:aa)(n:Nat)(T:al)(v:D)(a b:Code)(N:Env->Hp->Prop)(X:Nat->Env->Hp->Prop)(R:Env->Hp->Prop)(F:Env)(h:Hp):Prop:=
 ue v (vc P n T a N X R F h) (vc P n T b N X R F h)
section
variable {n:Nat} {N:Env->Hp->Prop} {X:Nat->Env->Hp->Prop} {R:Env->Hp->Prop}
theorem uh{b:Code}:Zi5 P n T b N X R F h=vc P n T b N X R F h:=rfl
theorem ui{j:Nat}:Zi6 j N X i F h=if i=j then N F h else X i F h:=rfl
theorem mP:BW i F h=False:=rfl
theorem uj{l:List ResultVar}:mO P l Q F h=Hy P l F Q h:=rfl
theorem Zbs:vc P n T .skip N X R F h=N F h:=rfl
theorem Zfo:vc P n T .ret N X R F h=R F h:=rfl
theorem Zbt{j:Nat}:vc P n T (.exit j) N X R F h=X j F h:=rfl
theorem Zfp{a b:Code}:vc P n T (.seq a b) N X R F h=vc P n T a (Zi5 P n T b N X R) X R F h:=rfl
theorem Zbu{c:a0}{a b:Code}:vc P n T (.cond c a b) N X R F h=Zej P n T (ev F c) a b N X R F h:=rfl
theorem uk{j:Nat}{c:Code}:vc P n T (.block j c) N X R F h=vc P n T c N (Zi6 j N X) R F h:=rfl
theorem mQ{id:Nat}{l:List Oper}:vc P n T (.region id l.toArray false) N X R F h=MF P T l N l F h:=rfl
theorem Zbv{id:Nat}{l:Array Oper}:vc P n T (.region id l true) N X R F h=VS P n T (.region id l true) N X R F h:=rfl
theorem Zbw{c:Code}:vc P n T (.loop c) N X R F h=VS P n T (.loop c) N X R F h:=rfl
theorem fc{a b:Code}{t:Bool}:Zej P n T (ak t) a b N X R F h=if t=true then vc P n T a N X R F h else vc P n T b N X R F h:=rfl
end
theorem Zg.ul{f:FuncId}{fn:Func}{c:Code}{l:List ResultVar}{args:List D}(hf:P.funcs[f]? = G fn)(hb:fn.body=G c)(hl:fn.results=l.toArray)(hn:cZ (M args) fn.ntmps=true)(QZ:codeOk fn.ntmps c=true)(H:vc P fn.ntmps T c (mO P l Q) BW (mO P l Q) (IH args 0) h):Zg P T f args.toArray h Q:=Zg.Zbq hf hb hl hn QZ H
theorem Zg.XK{f:FuncId}{fn:Func}{c:Code}{l:List ResultVar}(args:List D)(hf:P.funcs[f]? = G fn)(H:vc P fn.ntmps T c (mO P l Q) BW (mO P l Q) (IH args 0) h)(hb:fn.body=G c:=by rfl)(hl:fn.results=l.toArray:=by rfl)(hn:cZ (M args) fn.ntmps=true:=by rfl)(QZ:codeOk fn.ntmps c=true:=by rfl):Zg P T f args.toArray h Q:=Zg.ul hf hb hl hn QZ H
def XI(I:Env->Hp->Prop)(μ:Env->Hp->Nat)(m:Nat):Env->Hp->Prop:=fun F h=>I F h/\μ F h<m
theorem VS.Yq{X:Nat->Env->Hp->Prop}{R:Env->Hp->Prop}{c:Code}(I:Env->Hp->Prop)(μ:Env->Hp->Nat)(QZ:codeOk n c=true)(h0:I F h)(round:∀F h,I F h->vc P n T c (XI I μ (μ F h)) X R F h):VS P n T (.loop c) N X R F h:=
 VS.loop I μ h0 fun F h hI=>Qr _ _ _ _ _ _ QZ (round F h hI)
theorem Zg.use{f:FuncId}{args:Array D}(c:Zg P T f args h Q)(H:∀v h',Q v h'->K v h'):Zg P T f args h K:=c.mono H
theorem Zg.pure{f:FuncId}{args:Array D}{r:D}(c:Zg P T f args h fun v h'=>v=r/\h'=h)(H:K r h):Zg P T f args h K:=
 c.mono fun _ _ ⟨e1,e2⟩=>by subst e1;subst e2;exact H
def ap(B:D->Prop)(v:D):Prop:=B v
def OC(v:D)(h:Hp):D->Hp->Prop:=fun v' h'=>v'=v/\h'=h
def LP(P:aa)(T:al)(ops:List Oper)(N:Env->Hp->Prop):List Oper->Env->Hp->Prop
 | [],F,h=>N F h
 | ⟨d,op,ty,_,_,U⟩ :: l,F,h=>∃v,TL P T op ty (OC v h) F h/\LP P T ops N l (YG F d v) h
 | ⟨d,op,ty,_,_,G (j,b)⟩ :: l,F,h=>JD (U2 ops F j) b (∃v,TL P T op ty (OC v h) F h/\LP P T ops N l (YG F d v) h) (LP P T ops N l (YG F d undef) h)
theorem Ui:∀(l:List Oper) (F:Env),LP P T ops N l F h->SF P T ops (fun h'=>h'=h) N (l.map fun o=>(0,true,o)) F h
 | [],_,H=>H
 | ⟨d,op,ty,pos,Vc,U⟩ :: l,F,H=>by
  obtain⟨v,hv,H⟩:=H;exact⟨v,fun h' e=>by subst e;exact hv,Ui l _ H⟩
 | ⟨d,op,ty,pos,Vc,G (j,b)⟩ :: l,F,H=>by
  simp only[LP,JD]at H;simp only[cT,SF,JD];split at H
  .split at H
   .rename_i DX;rw[if_pos DX];obtain⟨v,hv,H⟩:=H;exact⟨v,fun h' e=>by subst e;exact hv,Ui l _ H⟩
   .rename_i DX;rw[if_neg DX];exact Ui l _ H
  .exact Ui l _ H
theorem VS.q{X:Nat->Env->Hp->Prop}{R:Env->Hp->Prop}{id:Nat}(hm:P.follows .mixedOrders=true)(QZ:SD n ops.toArray ((bg ops.toArray.size).map fun i=>(i,true))=true)(H:LP P T ops N ops F h):VS P n T (.region id ops.toArray true) N X R F h:=VS.Zfn hm QZ (Ui _ _ H)
def qK(P:aa)(T:al)(ops:List Oper)(N:Env->Hp->Prop)(l:List Oper)(F:Env)(d:Option Tmp)(h:Hp):D->Prop:=fun v=>LP P T ops N l (YG F d v) h
def DY(P:aa)(T:al)(op:Op)(ty:O)(B:D->Prop)(F:Env)(h:Hp):Prop:=∃v,TL P T op ty (OC v h) F h/\ap B v
def um(P:aa)(T:al)(ops:List Oper)(N:Env->Hp->Prop)(l:List Oper)(F:Env)(d:Option Tmp)(op:Op)(ty:O)(v:D)(b:Bool)(h:Hp):Prop:=
 JD v b (DY P T op ty (qK P T ops N l F d h) F h) (LP P T ops N l (YG F d undef) h)
theorem un:LP P T ops N [] F h=N F h:=rfl
theorem fe{l:List Oper}{op:Op}{pos:String}{Vc:Array Edge}:
  LP P T ops N (⟨d,op,ty,pos,Vc,U⟩ :: l) F h=DY P T op ty (qK P T ops N l F d h) F h:=rfl
theorem fg{l:List Oper}{op:Op}{pos:String}{Vc:Array Edge}{j:Nat}{b:Bool}:
  LP P T ops N (⟨d,op,ty,pos,Vc,G (j,b)⟩ :: l) F h=um P T ops N l F d op ty (U2 ops F j) b h:=rfl
theorem BX{l:List Oper}{op:Op}{b c:Bool}:
  um P T ops N l F d op ty (ak c) b h=if c=b then DY P T op ty (qK P T ops N l F d h) F h else LP P T ops N l (YG F d undef) h:=rfl
theorem Zfq{l:List Oper}:qK P T ops N l F d h v=LP P T ops N l (YG F d v) h:=rfl
def qR(x:Option D)(B:D->Prop):Prop:=match x with|some v=>ap B v|none=>False
theorem Zbx{B:D->Prop}:qR (G v) B=B v:=rfl
theorem sL{B:D->Prop}:(∃u,OC u h v h/\ap B u)=B v:=by
 apply propext;constructor
 .rintro⟨u,⟨e,_⟩,H⟩;subst e;exact H
 .intro H;exact⟨v,⟨rfl,rfl⟩,H⟩
section
variable {B:D->Prop}
theorem uo:DY P T (.move x) ty B F h=B (ev F x):=sL
theorem fh:DY P T (.assign x) ty B F h=B (ev F x):=sL
def ur(c a b:D)(B:D->Prop):Prop:=match c with|ak t=>B (if t then a else b)|_=>False
theorem fi{t:Bool}{a b:D}:ur (ak t) a b B=B (if t=true then a else b):=rfl
theorem ut{c a b:a0}:DY P T (.pick c a b) ty B F h=ur (ev F c) (ev F a) (ev F b) B:=by
 show (∃u,EE _ _ _ (OC u h) h/\ap B u)=_;unfold EE ur
 cases ev F c<;>first|exact sL|simp
def kf(s:Option Bool)(n:Option Nat)(p:D)(B:D->Prop)(h:Hp):Prop:=
 match p with
 | J (G a)=>match s,n with
  | some false,_=>qR (hc h a) B
  | some true,G n=>qR ((rd h a n).map fun l=>aw l.toArray) B
  | _,_=>False
 | _=>False
theorem mR{n:Option Nat}:kf (G false) n (J (G a)) B h=qR (hc h a) B:=rfl
theorem fm:kf (G true) (G n) (J (G a)) B h=qR ((rd h a n).map fun l=>aw l.toArray) B:=rfl
theorem uw:DY P T (.load t x) ty B F h=kf (ta P t) (tn P t) (ev F x) B h:=by
 show (∃u,MA _ _ _ (OC u h) h/\ap B u)=_;unfold MA kf
 cases ev F x with
 | pointer a=>
  cases a with
  | none=>simp
  | some a=>
   simp only;rcases ta P t with _|b
   .simp
   .cases b
    .simp only[IK,qR]
     cases hc h a with
     | none=>simp
     | some v=>exact sL
    .rcases tn P t with _|n
     .simp
     .simp only[Hz,qR]
      cases rd h a n with
      | none=>simp
      | some v=>exact sL
 | _=>simp
def fo(f:Option Nat)(p:D)(B:D->Prop):Prop:=match f,p with|some o,J (G a)=>B (J (G (a.add o)))|_,_=>False
theorem BY{f:Nat}:fo (G o) (J (G ⟨b,f,U⟩)) B=B (J (G ⟨b,f+o,U⟩)):=by
 show B (J (G (Addr.add _ _)))=_;rw[XL]
theorem mS:DY P T (.fieldAddr t x i) ty B F h=fo (tf P t i) (ev F x) B:=by
 show (∃u,NH _ _ (OC u h) h/\ap B u)=_;unfold NH fo;rcases tf P t i with _|o
 .simp
 .cases ev F x with
  | pointer a=>cases a with
   | none=>simp
   | some a=>exact sL
  | _=>simp
def qIx(arr:Option (Nat × O))(sl:Option O)(n:O->Option Nat)(p i:D)(B:D->Prop):Prop:=
 match i with
 | .int _ i=>(match arr,sl,p with
  | some (len,e),U,J (G a)=>(match n e with
   | some n=>if 0<=i/\i<(len:Int) then B (J (G (a.add (i.toNat*n)))) else False
   | none=>False)
  | none,G e,Z (G a) len _=>(match n e with
   | some n=>if 0<=i/\i<(len:Int) then B (J (G (a.add (i.toNat*n)))) else False
   | none=>False)
  | _,_,_=>False)
 | _=>False
def Zby(m:Option Nat)(len:Nat)(a:Addr)(i:Int)(B:D->Prop):Prop:=
 match m with|some m=>if 0<=i/\i<(len:Int) then B (J (G (a.add (i.toNat*m)))) else False|none=>False
theorem Zbz{n:O->Option Nat}{i:Int}:qIx (G (len,e)) U n (J (G a)) (.int k i) B=Zby (n e) len a i B:=rfl
theorem mT{n:O->Option Nat}{i:Int}:qIx U (G e) n (Z (G a) len cap) (.int k i) B=Zby (n e) len a i B:=rfl
theorem mU{f:Nat}{i:Int}:Zby (G m) len ⟨b,f,U⟩ i B=if 0<=i/\i<(len:Int) then B (J (G ⟨b,f+i.toNat*m,U⟩)) else False:=by
 simp only[Zby,XL]
theorem NN{c:Prop}[Decidable c]{A:D->Prop}:(∃u,(if c then A u else False)/\ap B u)=if c then (∃u,A u/\ap B u) else False:=by
 split<;>simp
theorem Zfr{i:a0}:DY P T (.indexAddr t x i) ty B F h=qIx (Xv P t) (QE P t) (tn P) (ev F x) (ev F i) B:=by
 show (∃u,vIx _ _ _ _ _ (OC u h) h/\ap B u)=_;unfold vIx qIx
 cases ev F i with
 | int k i=>
  simp only;rcases Xv P t with _|⟨len,e⟩
  .rcases QE P t with _|e
   .simp
   .cases ev F x with
    | slice a len cap=>
     cases a with
     | none=>simp
     | some a=>
      simp only;rcases tn P e with _|n
      .simp
      .simp only;rw[NN,sL]
    | _=>simp
  .rcases QE P t with _|e'
   .cases ev F x with
    | pointer a=>
     cases a with
     | none=>simp
     | some a=>
      simp only;rcases tn P e with _|n
      .simp
      .simp only;rw[NN,sL]
    | _=>simp
   .simp
 | _=>simp
def MG(v:D)(i:Nat)(B:D->Prop):Prop:=match v with|.tuple vs=>qR (vs[i]?) B|_=>False
theorem HH:MG (.tuple l.toArray) i B=qR (nth l i) B:=by simp[MG,Y7]
theorem BZ:DY P T (.extract x i) ty B F h=MG (ev F x) i B:=by
 show (∃u,WD _ _ (OC u h) h/\ap B u)=_;unfold WD MG
 cases ev F x with
 | tuple vs=>
  simp only[IK,qR]
  cases vs[i]? with
  | none=>simp
  | some v=>exact sL
 | _=>simp
def Zfs(v:D)(B:D->Prop):Prop:=match v with|J (G a)=>B (J (G a))|.func (.func f) x y=>B (.func (.func f) x y)|_=>False
theorem DZ:Zfs (J (G a)) B=B (J (G a)):=rfl
theorem ZbA:DY P T (.nilCheck x) ty B F h=Zfs (ev F x) B:=by
 show (∃u,dZ _ (OC u h) h/\ap B u)=_;unfold dZ Zfs
 cases ev F x with
 | pointer a=>cases a with
  | none=>simp
  | some a=>exact sL
 | func f a b=>cases f with
  | func f=>exact sL
  | _=>simp
 | _=>simp
theorem ZbB{op:BinOp}{t':O}:DY P T (.binOp op t x y t') ty B F h = ∃u,XS P op t x y (ev F x) (ev F y) (OC u h) h/\ap B u:=rfl
theorem Zft{op:UnOp}:DY P T (.unOp op t x) ty B F h = ∃u,vUn P op (ev F x) (OC u h) h/\ap B u:=rfl
theorem uy{s d:O}:DY P T (.convert s d x) ty B F h = ∃u,MB P s d (ev F x) (OC u h) h/\ap B u:=rfl
theorem Zfu{b:Builtin}{args:Array a0}{ts:Array O}:DY P T (.call ⟨.builtin b,args,ts⟩) ty B F h =
  ∃u,Ps P T b ts ty (args.map fun|.const _=>true|_=>false) (mJ F args.toList) (OC u h) h/\ap B u:=rfl
end
theorem Zfv{t:Nat}:ev F (.tmp t)=F t:=rfl
theorem uz:ev F (.const v)=v:=rfl
theorem mV{g:Nat}:ev F (.global g)=J (G ⟨g,0,U⟩):=rfl
theorem ZbC{g:Nat}:ev F (.func g)=.func (.func g) #[] #[]:=rfl
theorem Zt{d:Nat}{t:Nat}:YG F (G d) v t=if t=d then v else F t:=rfl
theorem mW:YG F U v=F:=rfl
theorem ZbD{d:Nat}{t:Nat}:upd F d v t=if t=d then v else F t:=rfl
theorem fp{t:Bool}{a b:D}:EE (ak t) a b K h=K (if t=true then a else b) h:=rfl
theorem mX:t9 (G l) t K h=K (J (G ⟨h.size,0,U⟩)) (h.push (Y l.toArray t)):=rfl
theorem mY:IK (G v) K h=K v h:=rfl
theorem mZ:Hz (G l) K h=K (aw l.toArray) h:=rfl
theorem EI{n:Option Nat}:MA (G false) n (J (G a)) K h=IK (hc h a) K h:=rfl
theorem HI:MA (G true) (G n) (J (G a)) K h=Hz (rd h a n) K h:=rfl
theorem uA:j4 (G h') K=K undef h':=rfl
theorem fq{i:Int}:Va (G n) (J (G a)) (.int k i) K h=if n=1 then j4 (QF h a (.int k i)) K else False:=rfl
theorem Aa{b:Bool}:Va (G n) (J (G a)) (ak b) K h=if n=1 then j4 (QF h a (ak b)) K else False:=rfl
theorem D0{p:Option Addr}{l c:Nat}:Va (G n) (J (G a)) (Z p l c) K h=if n=1 then j4 (QF h a (Z p l c)) K else False:=rfl
theorem F8{s:ByteArray}:Va (G n) (J (G a)) (.string s) K h=if n=1 then j4 (QF h a (.string s)) K else False:=rfl
theorem HJ{p:Option Addr}:Va (G n) (J (G a)) (.pointer p) K h=if n=1 then j4 (QF h a (.pointer p)) K else False:=rfl
theorem fu{p:Option Nat}:Va (G n) (J (G a)) (.map p) K h=if n=1 then j4 (QF h a (.map p)) K else False:=rfl
theorem Ab{f:Fn}{x y:Array D}:Va (G n) (J (G a)) (.func f x y) K h=if n=1 then j4 (QF h a (.func f x y)) K else False:=rfl
theorem HK:Va (G n) (J (G a)) .nilFunc K h=if n=1 then j4 (QF h a .nilFunc) K else False:=rfl
theorem fv:Va (G n) (J (G a)) (aw l.toArray) K h=if n=(M l) then j4 (wr h a l) K else False:=rfl
theorem Ad{f:Nat}:NH (G o) (J (G ⟨b,f,U⟩)) K h=K (J (G ⟨b,f+o,U⟩)) h:=by
 show K (J (G (Addr.add _ _))) h=_;rw[XL]
def ZbE(m:Option Nat)(len:Nat)(a:Addr)(i:Int)(K:D->Hp->Prop)(h:Hp):Prop:=
 match m with|some m=>if 0<=i/\i<(len:Int) then K (J (G (a.add (i.toNat*m)))) h else False|none=>False
theorem ZbF{n:O->Option Nat}{i:Int}:
  vIx (G (len,e)) U n (J (G a)) (.int k i) K h=ZbE (n e) len a i K h:=rfl
theorem m7{n:O->Option Nat}{i:Int}:
  vIx U (G e) n (Z (G a) len cap) (.int k i) K h=ZbE (n e) len a i K h:=rfl
theorem nc{f:Nat}{i:Int}:ZbE (G m) len ⟨b,f,U⟩ i K h=if 0<=i/\i<(len:Int) then K (J (G ⟨b,f+i.toNat*m,U⟩)) h else False:=by
 simp only[ZbE,XL]
theorem HL:WD (.tuple l.toArray) i K h=IK (nth l i) K h:=by simp[WD,Y7]
theorem D2:dZ (J (G a)) K h=K (J (G a)) h:=rfl
theorem ng{f:FuncId}{x y:Array D}:dZ (.func (.func f) x y) K h=K (.func (.func f) x y) h:=rfl
theorem fw{f:FuncId}(hg:goes P f=true):HC P T (.func (.func f) #[] #[]) l K h=Zg P T f l.toArray h K:=by
 simp only[HC,hg,↓reduceIte];simp
theorem uB{a b:Int}:XS P .add t x y (.int k a) (.int k b) K h=K (.int k (k.wrap (a+b))) h:=by
 simp[XS,binOp,Op.intArith,ZO,eqGuard]
theorem uC{a b:Int}:XS P .sub t x y (.int k a) (.int k b) K h=K (.int k (k.wrap (a-b))) h:=by
 simp[XS,binOp,Op.intArith,ZO,eqGuard]
theorem uD{a b:Int}:XS P .mul t x y (.int k a) (.int k b) K h=K (.int k (k.wrap (a*b))) h:=by
 simp[XS,binOp,Op.intArith,ZO,eqGuard]
theorem uE{a b:Int}:XS P .quo t x y (.int k a) (.int k b) K h=if b=0 then False else K (.int k (k.wrap (a.tdiv b))) h:=by
 simp only[XS,binOp,Op.intDiv,Zj,eqGuard];by_cases hb:b=0
 .subst hb;simp[runtimePanic,goPanic,Zj,hw,ZO,program]
 .simp[hb,ZO]
theorem uF{a b:Int}:XS P .rem t x y (.int k a) (.int k b) K h=if b=0 then False else K (.int k (a.tmod b)) h:=by
 simp only[XS,binOp,Op.intDiv,Zj,eqGuard];by_cases hb:b=0
 .subst hb;simp[runtimePanic,goPanic,Zj,hw,ZO,program]
 .simp[hb,ZO]
def YL(op:BinOp)(k:IntKind)(a b:Int):Int:=
 let x:=BitVec.ofInt k.bits a
 let y:=BitVec.ofInt k.bits b
 k.wrap (match op with|.and=>x &&& y|.or=>x ||| y|.xor=>x ^^^ y|_=>x &&& ~~~y).toNat
theorem uG{a b:Int}:XS P .and t x y (.int k a) (.int k b) K h=K (.int k (YL .and k a b)) h:=by
 simp[XS,binOp,Op.intBits,ZO,eqGuard,YL]
theorem ZbG{a b:Int}:XS P .or t x y (.int k a) (.int k b) K h=K (.int k (YL .or k a b)) h:=by
 simp[XS,binOp,Op.intBits,ZO,eqGuard,YL]
theorem uH{a b:Int}:XS P .xor t x y (.int k a) (.int k b) K h=K (.int k (YL .xor k a b)) h:=by
 simp[XS,binOp,Op.intBits,ZO,eqGuard,YL]
theorem Af{a b:Int}:XS P .andNot t x y (.int k a) (.int k b) K h=K (.int k (YL .andNot k a b)) h:=by
 simp[XS,binOp,Op.intBits,ZO,eqGuard,YL]
def Xq(k:IntKind)(a b:Int):Int:=k.wrap (a*2 ^ min b.toNat k.bits)
def Jc(k:IntKind)(a b:Int):Int:=a.fdiv (2 ^ min b.toNat k.bits)
theorem uI{k':IntKind}{a b:Int}:XS P .shl t x y (.int k a) (.int k' b) K h=if b<0 then False else K (.int k (Xq k a b)) h:=by
 simp only[XS,binOp,Op.shift,Zj,eqGuard];by_cases hb:b<0
 .simp[hb,runtimePanic,goPanic,Zj,hw,ZO,program]
 .simp[hb,ZO,Xq]
theorem uJ{k':IntKind}{a b:Int}:XS P .shr t x y (.int k a) (.int k' b) K h=if b<0 then False else K (.int k (Jc k a b)) h:=by
 simp only[XS,binOp,Op.shift,Zj,eqGuard];by_cases hb:b<0
 .simp[hb,runtimePanic,goPanic,Zj,hw,ZO,program]
 .simp[hb,ZO,Jc]
theorem uK{a b:Int}:XS P .eql t x y (.int k a) (.int k b) K h=K (ak (decide (a=b))) h:=by
 simp[XS,binOp,Op.intCmp,ZO,eqGuard];rfl
theorem uL{a b:Int}:XS P .neq t x y (.int k a) (.int k b) K h=K (ak (decide (a≠b))) h:=by
 simp[XS,binOp,Op.intCmp,ZO,eqGuard];have:(a != b) = !decide (a=b):=by rfl
 rw[this]
theorem uM{a b:Int}:XS P .lss t x y (.int k a) (.int k b) K h=K (ak (decide (a<b))) h:=by
 simp[XS,binOp,Op.intCmp,ZO,eqGuard]
theorem uN{a b:Int}:XS P .leq t x y (.int k a) (.int k b) K h=K (ak (decide (a<=b))) h:=by
 simp[XS,binOp,Op.intCmp,ZO,eqGuard]
theorem uO{a b:Int}:XS P .gtr t x y (.int k a) (.int k b) K h=K (ak (decide (b<a))) h:=by
 simp[XS,binOp,Op.intCmp,ZO,eqGuard]
theorem uP{a b:Int}:XS P .geq t x y (.int k a) (.int k b) K h=K (ak (decide (b<=a))) h:=by
 simp[XS,binOp,Op.intCmp,ZO,eqGuard]
theorem ZbH{b:Bool}:vUn P .not (ak b) K h=K (ak (!b)) h:=rfl
theorem ZbI{a:Int}:vUn P .neg (.int k a) K h=K (.int k (k.wrap (0-a))) h:=rfl
theorem ZbJ{a:Int}:vUn P .xor (.int k a) K h=K (.int k (YL .xor k (if k.signed then -1 else k.max) a)) h:=rfl
def uQ(d:Option IntKind)(a:Int)(K:D->Hp->Prop)(h:Hp):Prop:=match d with|some k=>K (.int k (k.wrap a)) h|none=>False
theorem Ag{a:Int}:uQ (G k) a K h=K (.int k (k.wrap a)) h:=rfl
theorem nh{s d:O}{j:IntKind}{a:Int}(hs:(FX P s).isSome=true)(hd:(FX P d).isSome=true):MB P s d (.int j a) K h=uQ (FX P d) a K h:=by
 unfold FX at hd hs;split at hd
 .rename_i k1 h1;split at hs
  .rename_i k2 h2;simp only[MB,convert,Zj,ZM h1,ZM h2];unfold FX;rw[h1];rfl
  .cases hs
 .cases hd
theorem nj{a b:ByteArray}:XS P .eql t x y (.string a) (.string b) K h=K (ak (a.toList == b.toList)) h:=by
 simp[XS,binOp,Op.stringOp,ZO,eqGuard]
theorem nk{a b:ByteArray}:XS P .neq t x y (.string a) (.string b) K h=K (ak (!(a.toList == b.toList))) h:=by
 simp[XS,binOp,Op.stringOp,ZO,eqGuard]
theorem D3{cs:Array Bool}{p:Option Addr}{l c:Nat}(ht:(QE P t).isSome=true):
  Ps P T .len #[t] ty cs [Z p l c] K h=K (.int .i64 l) h:=by
 unfold QE at ht;split at ht
 .rename_i e' hu;simp[Ps,builtin,c1,Zj,ZO,ZM hu,Jr,goInt]
 .cases ht
theorem np(h:W0 P t=true):P.underlying t=G .string:=by
 unfold W0 at h;split at h
 .assumption
 .cases h
theorem F9{cs:Array Bool}{s:ByteArray}(ht:W0 P t=true):
  Ps P T .len #[t] ty cs [.string s] K h=K (.int .i64 s.size) h:=by
 simp[Ps,builtin,c1,Zj,ZO,ZM (np ht),Jr,goInt]
theorem ZbK{ts:Array O}{cs:Array Bool}{k':IntKind}{a b:Int}:Ps P T .min ts ty cs [.int k a,.int k' b] K h=K (.int k (if b<a then b else a)) h:=by
 simp[Ps,builtin,Builtin.min_,Builtin.min2,ZO,Jr]
theorem ZbL{ts:Array O}{cs:Array Bool}{k':IntKind}{a b:Int}:Ps P T .max ts ty cs [.int k a,.int k' b] K h=K (.int k (if b>a then b else a)) h:=by
 simp[Ps,builtin,Builtin.max_,Builtin.max2,ZO,Jr]
end
section
variable {P:aa} {T:al} {K:D->Hp->Prop} {F:Env} {h:Hp} {ty:O} {B:D->Prop}
def uR(p:Option (Nat × Nat))(place:Nat->Option (Nat × Nat))(cs:List D)(v:D)(l:List (Nat × D)):Option (List D):=
 match p with
 | some (o,s)=>if (cl v).length=s/\o+s<=(M cs) then WE place (Xd cs o (cl v)) l else U
 | none=>U
theorem nq:WE place cs []=G cs:=rfl
theorem fy{l:List (Nat × D)}:WE place cs ((i,v) :: l)=uR (place i) place cs v l:=rfl
theorem Ah{s:Nat}{l:List (Nat × D)}:
  uR (G (o,s)) place cs v l=if (cl v).length=s/\o+s<=(M cs) then WE place (Xd cs o (cl v)) l else U:=rfl
theorem nr:MC n i=G (i*n,n):=rfl
theorem Ea{z:List D}{pl:List (Nat × Nat)}{n:O->Option Nat}:NJ (G z) (G pl) U n parts K h=Hz (WE (nth pl) z parts) K h:=rfl
theorem fB{z:List D}{e:Nat}{n:O->Option Nat}:NJ (G z) U (G (m,e)) n parts K h=I5 (n e) z parts K h:=rfl
theorem D4{z:List D}:I5 (G n) z parts K h=Hz (WE (MC n) z parts) K h:=rfl
theorem fD:j5 e len (G l) K h=K (Z (G ⟨h.size,0,U⟩) len len) (h.push (Y l.toArray e)):=rfl
theorem HM{z:List D}:Oy e (G n) (G z) len parts K h=if (M z)=n/\len*n<=16777216 then j5 e len (I6 n len z parts) K h else False:=rfl
theorem Eb{n:O->Option Nat}{z:O->Option (List D)}:MD (G e) n z len parts K h=Oy e (n e) (z e) len parts K h:=rfl
theorem fE:KH (G true) (G n) cs o K h=K (aw ((cs.drop o).take n).toArray) h:=rfl
theorem Ai{n:Option Nat}:KH (G false) n cs o K h=IK (nth cs o) K h:=rfl
theorem nt{t:Nat}{a:O->Option Bool}{n:O->Option Nat}:ua (G (o,t)) a n (aw cs.toArray) K h=KH (a t) (n t) cs o K h:=rfl
theorem uS{e:Nat}{a:O->Option Bool}{n:O->Option Nat}{i:Int}:mK (G (len,e)) false a n (aw cs.toArray) (.int k i) K h=j6 (n e) (a e) len cs i K h:=rfl
theorem fF{a:Option Bool}{i:Int}:j6 (G m) a len cs i K h=if 0<=i/\i<(len:Int) then KH a (G m) cs (i.toNat*m) K h else False:=rfl
theorem uT{a:O->Option Bool}{n:O->Option Nat}{s:ByteArray}{i:Int}:mK U true a n (.string s) (.int k i) K h=if 0<=i/\i<(s.size:Int) then K (.int .u8 ((s.data.toList.getD i.toNat 0).toNat:Nat)) h else False:=rfl
theorem ZbM{d y:Nat}:sb U d y=G d:=rfl
theorem Zfw{i:Int}{d y:Nat}:sb (G (.int k i)) d y=if 0<=i/\i<=(y:Int) then G i.toNat else U:=rfl
def Nl(a:Option Addr)(n cap b:Nat)(l:Option Nat)(K:D->Hp->Prop)(h:Hp):Prop:=
 match l with|some l=>K (Z (if cap=l then a else a.map (·.add (l*n))) (b-l) (cap-l)) h|none=>False
def uU(n:Nat)(a:Option Addr)(cap:Nat)(lo:Option D)(b:Option Nat)(K:D->Hp->Prop)(h:Hp):Prop:=
 match b with|some b=>Nl a n cap b (sb lo 0 b) K h|none=>False
theorem fG{a:Option Addr}{hi:Option D}:RY (G n) a len cap lo hi K h=uU n a cap lo (sb hi len cap) K h:=by
 unfold RY uU Nl
 cases sb hi len cap<;>rfl
theorem fH{a:Option Addr}:uU n a cap lo (G b) K h=Nl a n cap b (sb lo 0 b) K h:=rfl
theorem fI{l k:Nat}:Nl (G ⟨k,o,U⟩) n cap b (G l) K h=K (Z (if cap=l then G ⟨k,o,U⟩ else G ⟨k,o+l*n,U⟩) (b-l) (cap-l)) h:=by
 simp only[Nl,aF,XL]
theorem fJ{l:Nat}:Nl U n cap b (G l) K h=K (Z U (b-l) (cap-l)) h:=by
 simp[Nl]
theorem fK{e:Nat}{str:Bool}{n:O->Option Nat}{a:Option Addr}{hi:Option D}:FY U (G e) str n (Z a len cap) lo hi U K h=RY (n e) a len cap lo hi K h:=rfl
def uV(n:Option Nat)(a:Option Addr)(len:Nat)(lo:Option D)(hv:D)(m:Option Nat)(K:D->Hp->Prop)(h:Hp):Prop:=match m with|some m=>RY n a len m lo (G hv) K h|none=>False
theorem fM{n:Option Nat}{a:Option Addr}{hv:D}:uV n a len lo hv (G m) K h=RY n a len m lo (G hv) K h:=rfl
theorem uW{e:Nat}{str:Bool}{n:O->Option Nat}{a:Option Addr}{hv mv:D}:FY U (G e) str n (Z a len cap) lo (G hv) (G mv) K h=uV (n e) a len lo hv (sb (G mv) 0 cap) K h:=by
 simp only[FY,uV]
 cases sb (G mv) 0 cap<;>rfl
theorem uX{e:Nat}{str:Bool}{n:O->Option Nat}{hi:Option D}:FY (G (len,e)) U str n (J (G a)) lo hi U K h=RY (n e) (G a) len len lo hi K h:=rfl
def Zi7(s:ByteArray)(lo:Option D)(b:Option Nat)(K:D->Hp->Prop)(h:Hp):Prop:=
 match b with
 | some b=>(match sb lo 0 b with|some l=>K (.string (s.extract l b)) h|none=>False)
 | none=>False
theorem uY{n:O->Option Nat}{s:ByteArray}{hi:Option D}:FY U U true n (.string s) lo hi U K h=Zi7 s lo (sb hi s.size s.size) K h:=rfl
theorem uZ{e:Nat}{n b':O->Option Nat}{z:O->Option (List D)}{k':IntKind}{l c:Int}:vMk (G e) n b' z (.int k l) (.int k' c) K h=Zbn e (n e) (b' e) (z e) l c K h:=rfl
theorem nw{e by':Nat}{z:List D}{l c:Int}:Zbn e (G n) (G by') (G z) l c K h =
  if (M z)=n/\0<=l/\l<=c/\c<=9223372036854775807/\(by':Int)*c<=281474976710656 then K (Z (G ⟨h.size,0,U⟩) l.toNat c.toNat) (h.push (Y (Qa c.toNat z).toArray e)) else False:=rfl
theorem ZbN:DY P T (.field t x i) ty B F h = ∃u,ua (tfl P t i) (ta P) (tn P) (ev F x) (OC u h) h/\ap B u:=rfl
theorem ZbO{i:a0}:DY P T (.index t x i) ty B F h = ∃u,mK (Xv P t) (W0 P t) (ta P) (tn P) (ev F x) (ev F i) (OC u h) h/\ap B u:=rfl
theorem ZbP{lo hi mx:Option a0}:DY P T (.slice t x lo hi mx) ty B F h = ∃u,FY (Xv P t) (QE P t) (W0 P t) (tn P) (ev F x) (j7 F lo) (j7 F hi) (j7 F mx) (OC u h) h/\ap B u:=rfl
theorem ny{parts:Array (Nat × a0)}:DY P T (.build t parts) ty B F h = ∃u,NJ (tz P t) (NF P t) (Xv P t) (tn P) (d7 F parts.toList) (OC u h) h/\ap B u:=rfl
theorem Zfx:cl (aw l.toArray)=l:=rfl
theorem OD:hc (h.push (Y l.toArray t)) ⟨b,o,U⟩=if b=h.size then nth l o else hc h ⟨b,o,U⟩:=by
 unfold hc;simp only[aK];by_cases hb:b=h.size
 .subst hb;simp[Y7]
 .simp[hb]
theorem kh:rd (h.push (Y l.toArray t)) ⟨b,o,U⟩ n=if b=h.size then (if o+n<=(M l) then G ((l.drop o).take n) else U) else rd h ⟨b,o,U⟩ n:=by
 unfold rd;simp only[aK];by_cases hb:b=h.size
 .subst hb;simp
 .simp[hb]
def Aj(x:Option Hp)(o:Obj):Option Hp:=match x with|some h=>G (h.push o)|none=>U
theorem fN{o:Obj}:Aj (G h) o=G (h.push o):=rfl
theorem set_push{o o':Obj}(hb:b<h.size):(h.push o).setIfInBounds b o'=(h.setIfInBounds b o').push o:=by
 apply a6;intro i;simp only[an,aK,bb,Array.size_setIfInBounds];by_cases h1:b=i
 .subst h1;rw[if_pos rfl,if_pos mD,if_neg mD,if_pos rfl,if_pos hb]
 .rw[if_neg h1];by_cases h2:i=h.size
  .rw[if_pos h2,if_pos h2]
  .rw[if_neg h2,if_neg h2,if_neg h1]
theorem TM{o o':Obj}:(h.push o).setIfInBounds h.size o'=h.push o':=by
 apply a6;intro i;simp only[an,aK,bb];by_cases h1:h.size=i
 .subst h1;rw[if_pos rfl,if_pos mD,if_pos rfl]
 .rw[if_neg h1,if_neg (fun e=>h1 e.symm),if_neg (fun e=>h1 e.symm)]
theorem vd:QF (h.push (Y l.toArray t)) ⟨b,o,U⟩ v=if b=h.size then (if o<(M l)/\YN v=true then G (h.push (Y (l.set o v).toArray t)) else U) else Aj (QF h ⟨b,o,U⟩ v) (Y l.toArray t):=by
 unfold QF;simp only[aK];by_cases hb:b=h.size
 .subst hb;simp only[↓reduceIte,ct,bl,true_and,TM,List.setIfInBounds_toArray]
 .simp only[if_neg hb]
  cases hx:h[b]? with
  | none=>rfl
  | some ob=>
   have ZV:=(aX.1 hx).1
   cases ob with
   | cells c e fr=>
    obtain⟨lo,hi⟩:=fr;simp only;split
    .simp only[Aj,set_push ZV]
    .rfl
   | _=>rfl
theorem ZbQ{vs:List D}:wr (h.push (Y l.toArray t)) ⟨b,o,U⟩ vs=if b=h.size then (if o+(M vs)<=(M l)/\vs.all YN=true then G (h.push (Y (Xd l o vs).toArray t)) else U) else Aj (wr h ⟨b,o,U⟩ vs) (Y l.toArray t):=by
 unfold wr;simp only[aK];by_cases hb:b=h.size
 .subst hb;simp only[↓reduceIte,ct,bl,true_and,TM]
 .simp only[if_neg hb]
  cases hx:h[b]? with
  | none=>rfl
  | some ob=>
   have ZV:=(aX.1 hx).1
   cases ob with
   | cells c e fr=>
    obtain⟨lo,hi⟩:=fr;simp only;split
    .simp only[Aj,set_push ZV]
    .rfl
   | _=>rfl
end
def XX(h:Hp)(b o:Nat)(cs:List D):Prop:=∀i (hi:i<(M cs)),hc h ⟨b,o+i,U⟩=G cs[i]
def Sl(n:Nat)(h:Hp)(v:D)(m:Nat)(cs:List D):Prop:=
 ∃p cap,v=Z p m cap/\(M cs)=m*n/\(cs≠[]->∃b o,p=G ⟨b,o,U⟩/\XX h b o cs)
def UK(B:Nat)(E:O)(n:Nat)(h:Hp)(v:D)(m:Nat)(cs:List D):Prop:=
 ((∃p,v=Z p 0 0)/\m=0/\cs=[]) \/
 ∃b cap ZE,B<=b/\v=Z (G ⟨b,0,U⟩) m cap/\h[b]? = G (Y (cs++ZE).toArray E (0,0))/\(M cs)=m*n/\(M ZE)=(cap-m)*n/\m<=cap
structure Zk(B:Nat)(h h':Hp):Prop where
 size:h.size<=h'.size
 block:∀b,b<B->h'[b]? = h[b]?
theorem Zk.refl(B:Nat)(h:Hp):Zk B h h:=⟨bl _,fun _ _=>rfl⟩
theorem Zk.trans{II:Hp}(a:Zk B h h')(b:Zk B h' II):Zk B h II:=
 ⟨Nat.le_trans a.size b.size,fun k hk=>(b.block k hk).trans (a.block k hk)⟩
theorem Zk.mono{B':Nat}(a:Zk B h h')(hB:B'<=B):Zk B' h h':=⟨a.size,fun k hk=>a.block k (Nat.lt_of_lt_of_le hk hB)⟩
theorem Zk.push(hB:B<=h.size)(o:Obj):Zk B h (h.push o):=
 ⟨sW,fun k hk=>by rw[aK,if_neg mD]⟩
theorem Zk.set(hb:B<=b)(o:Obj):Zk B h (h.setIfInBounds b o):=
 ⟨sW,fun k hk=>by rw[an,if_neg mD]⟩
theorem Zk.hc(a:Zk B h h'){p:Addr}(hp:p.block<B):hc h' p=hc h p:=by unfold V.hc;rw[a.block _ hp]
theorem Za{o:Obj}(hb:h[b]? = G o):b<h.size:=(aX.1 hb).1
theorem WF{p:Addr}(hp:hc h p=G v):p.block<h.size:=by
 unfold hc at hp
 cases hb:h[p.block]? with
 | none=>rw[hb]at hp;cases hp
 | some o=>exact Za hb
theorem SG{c:Array D}{fr:Nat × Nat}(hb:h[b]? = G (Y c e fr))(o:Nat):hc h ⟨b,o,U⟩=c[o]?:=by
 unfold hc;simp only[hb];rfl
theorem Zk.XX(a:Zk B h h')(hb:b<B)(XH:XX h b o cs):XX h' b o cs:=
 fun i hi=>by rw[a.hc (by exact hb)];exact XH i hi
theorem Sl.YJ(s:Sl n h v m cs)(a:Zk h.size h h'):Sl n h' v m cs:=by
 obtain⟨p,cap,hv,hl,hc⟩:=s;refine⟨p,cap,hv,hl,fun Xb=>?_⟩;obtain⟨b,o,hp,XH⟩:=hc Xb;refine⟨b,o,hp,a.XX ?_ XH⟩;have HE:0<(M cs):=bp.2 Xb;exact WF (XH 0 HE)
theorem UK.sl(s:UK B E n h v m cs):Sl n h v m cs:=by
 rcases s with⟨⟨p,rfl⟩,rfl,rfl⟩|⟨b,cap,ZE,hB,rfl,hb,hl,_,_⟩
 .exact⟨p,0,rfl,sW,fun h=>(h rfl).elim⟩
 .refine⟨_,cap,rfl,hl,fun _=>⟨b,0,rfl,fun i hi=>?_⟩⟩;rw[SG hb,b5];simp[bD hi]
theorem UK.nil(B:Nat)(E:O)(n:Nat)(h:Hp):UK B E n h (Z U 0 0) 0 []:=.inl ⟨⟨U,rfl⟩,rfl,rfl⟩
theorem UK.Ec(B:Nat)(E:O)(n:Nat)(h:Hp)(p:Option Addr):UK B E n h (Z p 0 0) 0 []:=.inl ⟨⟨p,rfl⟩,rfl,rfl⟩
def Ya:D->Option Nat
 | Z (G a) _ cap=>if cap=0 then U else G a.block
 | _=>U
structure Rs(x:Option Nat)(h h':Hp):Prop where
 size:h.size<=h'.size
 block:∀b,b<h.size->x≠G b->h'[b]? = h[b]?
theorem Rs.YJ{x:Option Nat}(a:Rs x h h')(hB:B<=h.size)(hx:∀b,x=G b->B<=b):Zk B h h':=
 ⟨a.size,fun k hk=>a.block k mD (fun e=>by have:=hx k e;omega)⟩
theorem UK.ZZ(s:UK B E n h v m cs):∀b,Ya v=G b->B<=b:=by
 intro b hb;rcases s with⟨⟨p,rfl⟩,_,_⟩|⟨b',cap,ZE,hB,rfl,_⟩
 .cases p<;>simp[Ya]at hb
 .simp only[Ya]at hb;split at hb
  .cases hb
  .simp only[Option.some.injEq]at hb;omega
theorem UK.ve(s:UK B E n h v m cs){x:Option Nat}(a:Rs x h h')(hx:∀b,Ya v=G b->x≠G b):UK B E n h' v m cs:=by
 rcases s with s|⟨b,cap,ZE,hB,rfl,hb,r⟩
 .exact .inl s
 .by_cases hc:cap=0
  .subst hc;obtain⟨r1,r2,r3⟩:=r;have hm:m=0:=mD;subst hm;exact .inl ⟨⟨_,rfl⟩,rfl,aI (by simpa using r1)⟩
  .exact .inr ⟨b,cap,ZE,hB,rfl,by rw[a.block b (Za hb) (hx b (by simp[Ya,hc]))];exact hb,r⟩
theorem Rs.push(o:Obj){x:Option Nat}:Rs x h (h.push o):=⟨sW,fun k hk _=>by rw[aK,if_neg mD]⟩
theorem Rs.refl{x:Option Nat}:Rs x h h:=⟨bl _,fun _ _ _=>rfl⟩
theorem UK.push(s:UK B E n h v m cs)(o:Obj):UK B E n (h.push o) v m cs:=
 s.ve (x:=U) (Rs.push o) (fun _ _=>by simp)
theorem UK.YJ{C:Nat}(s:UK B E n h v m cs)(a:Zk C h h')(hC:h.size<=C):UK B E n h' v m cs:=
 s.ve (x:=U) ⟨a.size,fun b hb _=>a.block b mD⟩ (fun _ _=>by simp)
theorem UK.mono{B':Nat}(s:UK B E n h v m cs)(hB:B'<=B):UK B' E n h v m cs:=by
 rcases s with s|⟨b,cap,ZE,hb,r⟩
 .exact .inl s
 .exact .inr ⟨b,cap,ZE,mD,r⟩
section
variable {P:aa} {T:al} {K:D->Hp->Prop} {F:Env} {h:Hp} {ty:O}
theorem YE(s:Sl n h v m cs){Q:Array D->Hp->Prop}(H:Q cs.toArray h):hw P (Builtin.firstCells n m v) Q h:=by
 obtain⟨p,cap,rfl,hl,hc⟩:=s
 cases p with
 | none=>
  have:cs=[]:=by
   cases cs with
   | nil=>rfl
   | cons x l=>obtain⟨b,o,hp,_⟩:=hc sW;cases hp
  subst this;exact H
 | some a=>
  show hw P (loadCells a (m*n)) Q h;rw[<-hl];refine run_loadCells a cs _ 0 #[] (fun j hj=>?_) rfl (by simpa using H);obtain⟨b,o,hp,XH⟩:=hc (by intro e;subst e;simp at hj);simp only[Option.some.injEq]at hp;subst hp;rw[XL,b5,XH j hj];simp[hj]
theorem Sl.lenOf(s:Sl n h v m cs){Q:Nat->Hp->Prop}:hw P (Builtin.lenOf v) Q h=Q m h:=by
 obtain⟨p,cap,rfl,_,_⟩:=s;rfl
theorem VQ(l r vs:List D):Xd (l++r) (M l) vs=l++Xd r 0 vs:=by
 induction l with
 | nil=>simp
 | cons x l ih=>
  cases vs with
  | nil=>simp[Xd]
  | cons v vs=>simp only[cx,a9,Xd];rw[ih]
theorem Uy(r vs:List D)(h:(M vs)<=(M r)):Xd r 0 vs=vs++r.drop (M vs):=by
 induction vs generalizing r with
 | nil=>simp[Xd]
 | cons v vs ih=>
  cases r with
  | nil=>simp at h
  | cons x r=>simp only[Xd,cx,a9,cf];rw[ih r (by simpa using h)]
theorem Xr(z:Array D)(n:Nat):(bR z n).size=n*z.size:=by simp[bR]
theorem VR(Vd cap bytes:Nat)(ZV:cap<Vd)(hb:Vd*bytes<=140737488355328):a2 Vd cap*bytes<=281474976710656:=by
 have g1:∀(r c:Nat),Vd<=c->a8 Vd r c=c:=by
  intro r c hc
  cases r with
  | zero=>rfl
  | succ r=>simp[a8,hc]
 have g2:∀(r c:Nat),c<Vd->a8 Vd r c<=Vd+(Vd+768)/4:=by
  intro r
  induction r with
  | zero=>intro c hc;simp only[a8];omega
  | succ r ih=>
   intro c hc;simp only[a8];rw[if_neg mD];by_cases h2:c+(c+768)/4<Vd
   .exact ih _ h2
   .rw[g1 r _ mD];omega
 have key:a2 Vd cap<=2*Vd+192:=by
  unfold a2;split
  .omega
  .split
   .omega
   .have:=g2 4 cap ZV;omega
 have e1:a2 Vd cap*bytes<=(2*Vd+192)*bytes:=a4 _ key;unfold a2;split
 .omega
 .rename_i h1;split
  .have:2*cap*bytes<=2*Vd*bytes:=a4 _ mD;have e:2*Vd*bytes=2*(Vd*bytes):=by rw[Nat.mul_assoc]
   omega
  .rename_i h2;have hg:=g2 4 cap ZV;have h3:a8 Vd 4 cap*bytes<=(Vd+(Vd+768)/4)*bytes:=a4 _ hg;have h4:(Vd+(Vd+768)/4)*bytes<=(2*Vd)*bytes:=a4 _ mD;have e:2*Vd*bytes=2*(Vd*bytes):=by rw[Nat.mul_assoc]
   omega
theorem HN{sT xT E E' k bytes:Nat}{s:D}{news zs:List D}{cb:Array Bool}(Vv:QE P sT=G E)(D5:P.underlying xT=G (.slice E'))(hn:tn P E=G n)(hz:tz P E=G zs)(fO:(M zs)=n)(OB:tb P E=G bytes)(Zr:UK B E n h v m cs)(hB:B<=h.size)(src:Sl n h s k news)(X1:news.all YN=true)(Xa:(m+k)*bytes<=140737488355328)(D6:1<=bytes)(H:∀v' h',UK B E n h' v' (m+k) (cs++news)->Rs (Ya v) h h'->K v' h'):Ps P T .append #[sT,xT] ty cb [v,s] K h:=by
 unfold QE at Vv;split at Vv
 .rename_i e' hu;simp only[Option.some.injEq]at Vv;subst Vv;show hw P (do pure (.value (<-b6 #[sT,xT] ty #[v,s]))) (Jr P T K) h;rw[Zj];show hw P (b6 #[sT,xT] ty #[v,s]) K h;obtain⟨i0,Ph⟩:∃i,P.info? e'=G i:=by
   unfold tn at hn
   cases hi:P.info? e' with
   | none=>rw[hi]at hn;cases hn
   | some i=>exact⟨i,rfl⟩
  have NL:i0.bytes=bytes:=by unfold tb at OB;rw[Ph]at OB;simpa using OB
  obtain⟨z0,Bz,fP⟩:∃z,i0.zero=G z/\z.cells.toList=zs:=by
   unfold tz at hz;rw[Ph]at hz
   cases I8:i0.zero with
   | none=>rw[am,I8]at hz;cases hz
   | some z=>rw[am,I8]at hz;exact⟨z,rfl,by simpa using hz⟩
  have hvs:∃base cap,v=Z base m cap:=by
   rcases Zr with⟨⟨p,rfl⟩,rfl,_⟩|⟨b,cap,sp,_,rfl,_⟩
   .exact⟨_,_,rfl⟩
   .exact⟨_,_,rfl⟩
  obtain⟨base,cap,hv⟩:=hvs;subst hv;have nz:∀{Q:D->Hp->Prop} (g:Hp),hw P (zeroValue e') Q g=Q z0 g:=fun {Q} g=>by
   unfold zeroValue;rw[Zj,X0 Ph];simp only[Bz];rfl
  simp only[b6,b9,b2,b3,Zj,ZO,ZM hu,ZM D5,run_sizeOf hn,aU,if_false,src.lenOf,Bool.not_false,if_true];by_cases QG:m+k<=cap
  .rw[if_pos QG,Zj];refine YE src ?_;have VT:(M news)=k*n:=by obtain⟨_,_,_,hl,_⟩:=src;exact hl
   by_cases Xb:news=[]
   .subst Xb;have vf:hw P (match base with|some a=>(do storeCells (a.add (m*n)) [];pure (Value.slice base (m+k) cap))|none=>pure (Value.slice base (m+k) cap)) K h=K (Z base (m+k) cap) h:=by
     cases base<;>rfl
    have hK:K (Z base (m+k) cap) h:=by
     refine H _ _ ?_ Rs.refl;rcases Zr with⟨⟨p,h1⟩,h2,h3⟩|⟨b,HP,ZE,Ha,h1,hb,hl,Nm,sO⟩
     .simp only[Value.slice.injEq]at h1;obtain⟨rfl,rfl,rfl⟩:=h1;have hk:k=0:=mD;subst hk;subst h3;exact .inl ⟨⟨_,rfl⟩,rfl,rfl⟩
     .simp only[Value.slice.injEq]at h1;obtain⟨rfl,_,rfl⟩:=h1;have dJ:k*n=0:=by simpa using VT.symm
      refine .inr ⟨b,cap,ZE,Ha,rfl,by simpa using hb,by rw[List.append_nil,hl,bd,dJ];rfl,?_,QG⟩;rw[Nm,cA,cA,bd,dJ,cq]
    cases base<;>exact hK
   rcases Zr with⟨⟨p,h1⟩,h2,h3⟩|⟨b,HP,ZE,Ha,h1,hb,hl,Nm,sO⟩
   .simp only[Value.slice.injEq]at h1;obtain⟨rfl,rfl,rfl⟩:=h1;have hk:k=0:=mD;subst hk;exact (Xb (aI (by simpa using VT))).elim
   .simp only[Value.slice.injEq]at h1;obtain⟨rfl,_,rfl⟩:=h1;simp only[Zj,XL];have Rt:(M news)<=(M ZE):=by rw[VT,Nm];exact a4 _ mD
    refine YZ (e:=e') (lo:=0) (hi:=0) rfl (bl _) news 0 h (cs++ZE).toArray hb ?_ X1 ?_
    .simp;rw[<-hl];omega
    .simp only[ZO,b5,cq];refine H _ _ (.inr ⟨b,cap,ZE.drop (M news),Ha,rfl,?_,?_,?_,QG⟩) ⟨sW,fun b' JU hx=>?_⟩
     .rw[an,if_pos rfl,if_pos (Za hb)];rw[<-hl,VQ,Uy _ _ Rt,List.append_assoc]
     .rw[bc,hl,VT,bd]
     .rw[cv,Nm,VT,<-cA];congr 1;omega
     .rw[an,if_neg];intro e;subst e;have hcz:cap≠0:=by
       intro h0;subst h0;have:k=0:=mD;subst this;exact Xb (aI (by simpa using VT))
      exact hx (by simp[Ya,hcz])
  .rw[if_neg QG];have U3:¬a2 (m+k) cap*i0.bytes>2 ^ 48:=by
    rw[NL];have:=VR (m+k) cap bytes mD Xa;omega
   have fQ:¬i0.bytes=0:=by rw[NL];omega
   simp only[Zj,X0 Ph,fQ,or_false,and_false,if_false,if_neg U3];intro t;obtain⟨c,hc⟩:=ZP (Question.cut (Question.appendCap (m+k) cap e') t);have vg:m+k<=c:=by rw[hc];simp only[Question.cut];omega
   rw[<-hc];have NM:∀{Q:Unit->Hp->Prop} (b:Nat) (g:Hp),Q () g->hw P (askRoom b) Q g:=fun {Q} b g q=>by
    unfold askRoom;split<;>exact q
   refine NM _ _ (YE Zr.sl (YE src ?_));rw[nz];have vj:z0.cells.size=n:=by rw[<-fO,<-fP];simp
   refine H (Z (G ⟨h.size,0,U⟩) (m+k) c) _ (.inr ⟨h.size,c,(bR z0.cells (c-(m+k))).toList,hB,rfl,?_,?_,?_,vg⟩) (Rs.push _)
   .rw[Array.getElem?_push_size];simp
   .have VT:(M news)=k*n:=by obtain⟨_,_,_,hl,_⟩:=src;exact hl
    have Vb:(M cs)=m*n:=by obtain⟨_,_,_,hl,_⟩:=Zr.sl;exact hl
    rw[bc,Vb,VT,bd]
   .rw[Array.length_toList,Xr,vj]
 .cases Vv
def bv(x:Nat):D:=.int .u8 x
structure Bs(h:Hp)(v:D)(l:List Nat):Prop where
 sl:Sl 1 h v (M l) (l.map bv)
 byte:∀x∈l,x<256
structure YB(B:Nat)(E:O)(h:Hp)(v:D)(l:List Nat):Prop where
 Zr:UK B E 1 h v (M l) (l.map bv)
 byte:∀x∈l,x<256
theorem YB.bs{l:List Nat}(s:YB B E h v l):Bs h v l:=⟨s.Zr.sl,s.byte⟩
theorem Bs.YJ{l:List Nat}(s:Bs h v l)(a:Zk h.size h h'):Bs h' v l:=⟨s.sl.YJ a,s.byte⟩
theorem YB.YJ{C:Nat}{l:List Nat}(s:YB B E h v l)(a:Zk C h h')(hC:h.size<=C):YB B E h' v l:=⟨s.Zr.YJ a hC,s.byte⟩
theorem YB.mono{B':Nat}{l:List Nat}(s:YB B E h v l)(hB:B'<=B):YB B' E h v l:=⟨s.Zr.mono hB,s.byte⟩
theorem YB.push{l:List Nat}(s:YB B E h v l)(o:Obj):YB B E (h.push o) v l:=⟨s.Zr.push o,s.byte⟩
theorem YB.nil(B:Nat)(E:O)(h:Hp):YB B E h (Z U 0 0) []:=⟨UK.nil B E 1 h,fun _ h=>by cases h⟩
theorem Ru(l:List Nat):(l.map bv).all YN=true:=by simp[bv,YN]
theorem Bs.open{l:List Nat}(s:Bs h v l):∃p cap,v=Z p (M l) cap/\(l≠[]->∃b o,p=G ⟨b,o,U⟩/\b<h.size/\∀i (hi:i<(M l)),hc h ⟨b,o+i,U⟩=G (.int .u8 (l[i]:Nat))):=by
 obtain⟨⟨p,cap,hv,_,hc⟩,_⟩:=s;refine⟨p,cap,hv,fun Xb=>?_⟩;obtain⟨b,o,hp,XH⟩:=hc (by simpa using Xb);refine⟨b,o,hp,?_,fun i hi=>?_⟩
 .exact WF (XH 0 (by simpa using bp.2 Xb))
 .have:=XH i (by simpa using hi)
  simpa [bv] using this
end
attribute [go_sem] Zbs Zfo Zbt Zfp Zbu uk mQ Zbv Zbw uh ui mP uj fc ug eW fa BV uf
 TL Zfv uz mV ZbC mJ Zt mW ZbD IH U2 fp mX cl mY mZ EI HI uA fq Aa D0 F8
 HJ fu Ab HK fv Ad ZbF m7 nc HL D2 ng fw
 uB uC uD uE uF uG ZbG uH Af uI uJ uK uL uM uN uO uP ZbH ZbI ZbJ nh Ag
 nj nk D3 F9 ZbK ZbL un fe fg BX Zfq Zbx sL uo fh ut fi uw mR fm mS BY Zfr Zbz mT mU BZ HH ZbA DZ ZbB Zft uy Zfu NN
 Hy QC NE aF am Option.isSome_some decide_eq_true_eq decide_eq_false_iff_not
attribute [go_sem] nq fy Ah nr Ea fB D4 fD HM Eb fE Ai nt uS fF uT ZbM Zfw fG fH fI fJ fK uW fM uX uY
 uZ nw ZbN ZbO ZbP ny Zfx OD kh fN vd ZbQ d7 j7 nth Xd d8 I6 YN List.toList_toArray a9 cF cf List.drop_zero List.take_succ_cons List.take_zero ck cn
 bk List.all_nil Bool.and_true bb b5 List.take_nil List.drop_nil
def vi:D->Int|.int _ n=>n|_=>0
theorem Y0(l:List α)(i:Nat)(hi:i<(M l)):l.take (i+1)=l.take i++[l[i]]:=List.take_succ_eq_append_getElem hi
def w64(n:Int):Int:=IntKind.i64.wrap n
theorem fR(n:Int):IntKind.i64.wrap n=if -9223372036854775808<=n/\n<=9223372036854775807 then n else w64 n:=by
 split
 .rename_i h;exact cd n h
 .rfl
theorem Am(n:Int):IntKind.u8.wrap n=n%256:=by simp[IntKind.wrap,IntKind.bits,IntKind.signed]
theorem MH(n:Int):IntKind.u32.wrap n=n%4294967296:=by simp[IntKind.wrap,IntKind.bits,IntKind.signed]
theorem MI(n:Int):IntKind.u64.wrap n=n%18446744073709551616:=by simp[IntKind.wrap,IntKind.bits,IntKind.signed]
attribute [go_sem] fR Am MH MI true_and and_true ne_eq not_true_eq_false not_false_eq_true decide_true decide_false Bool.false_eq_true Int.toNat_natCast Nat.mul_one
theorem LQ(w a:Nat):BitVec.ofInt w (a:Int)=BitVec.ofNat w a:=by
 apply BitVec.eq_of_toNat_eq;simp[BitVec.toNat_ofNat]
theorem SI(k:IntKind)(n:Nat)(h:n<2 ^ (if k.signed then k.bits-1 else k.bits)):k.wrap (n:Int)=n:=by
 cases k<;>simp[IntKind.wrap,IntKind.bits,IntKind.signed]at h ⊢<;>omega
theorem OE(k:IntKind)(a b:Nat)(ha:a<2 ^ (if k.signed then k.bits-1 else k.bits))(hb:b<2 ^ (if k.signed then k.bits-1 else k.bits)):YL .and k a b=((a &&& b:Nat):Int):=by
 have hle:2 ^ (if k.signed then k.bits-1 else k.bits)<=2 ^ k.bits:=bn mD (by split<;>omega);simp only[YL,LQ];rw[BitVec.toNat_and,BitVec.toNat_ofNat,BitVec.toNat_ofNat,a3 mD,a3 mD];exact SI k _ (Nat.lt_of_le_of_lt Nat.and_le_left ha)
theorem MK(k:IntKind)(a b:Nat)(ha:a<2 ^ (if k.signed then k.bits-1 else k.bits))(hb:b<2 ^ (if k.signed then k.bits-1 else k.bits)):YL .or k a b=((a ||| b:Nat):Int):=by
 have hle:2 ^ (if k.signed then k.bits-1 else k.bits)<=2 ^ k.bits:=bn mD (by split<;>omega);simp only[YL,LQ];rw[BitVec.toNat_or,BitVec.toNat_ofNat,BitVec.toNat_ofNat,a3 mD,a3 mD];exact SI k _ (Nat.or_lt_two_pow ha hb)
theorem EJ(k:IntKind)(a b:Nat)(ha:a<2 ^ (if k.signed then k.bits-1 else k.bits))(hb:b<2 ^ (if k.signed then k.bits-1 else k.bits)):YL .xor k a b=((a ^^^ b:Nat):Int):=by
 have hle:2 ^ (if k.signed then k.bits-1 else k.bits)<=2 ^ k.bits:=bn mD (by split<;>omega);simp only[YL,LQ];rw[BitVec.toNat_xor,BitVec.toNat_ofNat,BitVec.toNat_ofNat,a3 mD,a3 mD];exact SI k _ (Nat.xor_lt_two_pow ha hb)
theorem vm(a b:Nat)(ha:a<256)(hb:b<256):YL .and .u8 a b=((a &&& b:Nat):Int):=OE .u8 a b ha hb
theorem Zi8(a b:Nat)(ha:a<256)(hb:b<256):YL .or .u8 a b=((a ||| b:Nat):Int):=MK .u8 a b ha hb
theorem D7(a b:Nat)(ha:a<256)(hb:b<256):YL .xor .u8 a b=((a ^^^ b:Nat):Int):=EJ .u8 a b ha hb
theorem ML(a b:Nat)(ha:a<4294967296)(hb:b<4294967296):YL .and .u32 a b=((a &&& b:Nat):Int):=OE .u32 a b ha hb
theorem PA(a b:Nat)(ha:a<4294967296)(hb:b<4294967296):YL .or .u32 a b=((a ||| b:Nat):Int):=MK .u32 a b ha hb
theorem Q0(a b:Nat)(ha:a<4294967296)(hb:b<4294967296):YL .xor .u32 a b=((a ^^^ b:Nat):Int):=EJ .u32 a b ha hb
theorem ZbR(a b:Nat)(ha:a<18446744073709551616)(hb:b<18446744073709551616):YL .and .u64 a b=((a &&& b:Nat):Int):=OE .u64 a b ha hb
theorem fS(a b:Nat)(ha:a<18446744073709551616)(hb:b<18446744073709551616):YL .or .u64 a b=((a ||| b:Nat):Int):=MK .u64 a b ha hb
theorem ZbS(a b:Nat)(ha:a<9223372036854775808)(hb:b<9223372036854775808):YL .and .i64 a b=((a &&& b:Nat):Int):=OE .i64 a b ha hb
theorem NO(a b:Nat)(ha:a<9223372036854775808)(hb:b<9223372036854775808):YL .or .i64 a b=((a ||| b:Nat):Int):=MK .i64 a b ha hb
theorem OF(k:IntKind)(a n:Nat)(hn:n<=k.bits):Jc k a n=((a >>> n:Nat):Int):=by
 simp only[Jc,cu,cP hn];rw[Int.fdiv_eq_ediv_of_nonneg _ (Int.le_of_lt (Int.pow_pos mD)),Nat.shiftRight_eq_div_pow];simp
theorem D8(k:IntKind)(a n:Nat)(hn:n<=k.bits):Xq k a n=k.wrap ((a*2 ^ n:Nat):Int):=by
 simp only[Xq,cu,cP hn];simp
theorem D9(a b:Nat):a ^^^ b=0↔a=b:=by
 constructor
 .intro h;have h2:a ^^^ b ^^^ b=0 ^^^ b:=by rw[h]
  rwa [Nat.xor_assoc,Nat.xor_self,Nat.xor_zero,Nat.zero_xor]at h2
 .intro h;subst h;exact Nat.xor_self a
theorem An(a b:Nat):a ||| b=0↔a=0/\b=0:=by
 simp
open Go.ChangeShapes Go.WideShapes Go.ChangeAt Go.RowKit
def fit(P:aa)(h:Hp):Nat->O->List D->Prop
 | 0,_,_=>False
 | k+1,t,cs=>
  match P.underlying t with
  | some .bool=>∃b,cs=[ak b]
  | some (.int i)=>∃n,cs=[.int i n]/\(Lit.int i n).wf=true
  | some .string=>∃s,cs=[.string s]/\s.size<=reachBytes
  | some (.slice e)=>∃p len cap,cs=[Z p len cap]/\len<=cap/\cap*P.bytesOf e<=reachBytes /\
    (len≠0->P.cellsOf e≠0->∃b o,p=G ⟨b,o,U⟩/\b<h.size/\∀i,i<len->∃ds,(M ds)=P.cellsOf e/\XX h b (o+i*P.cellsOf e) ds/\fit P h k e ds)
  | some (.struct fs)=>(M cs)=P.cellsOf t/\∀f∈fs.toList,fit P h k f.type ((cs.drop f.offset).take (P.cellsOf f.type))
  | some (.array n e)=>(M cs)=P.cellsOf t/\∀i,i<n->fit P h k e ((cs.drop (i*P.cellsOf e)).take (P.cellsOf e))
  | _=>True
def nA(P:aa)(h:Hp)(k:Nat)(t:O)(v:D):Prop:=
 match ta P t with
 | some true=>∃cs:List D,v=aw cs.toArray/\fit P h k t cs
 | _=>fit P h k t [v]
def fitAll(P:aa)(h:Hp):List O->List D->Prop
 | [],[]=>True
 | t :: ts,v :: vs=>(∃k,nA P h k t v)/\fitAll P h ts vs
 | _,_=>False
theorem SJ{β:Type}{f:α->Option β}:∀{l:List α} {r:List β},l.mapM f=G r->(M r)=(M l)/\∀(i:Nat) (x:α) (y:β),l[i]? = G x->r[i]? = G y->f x=G y
 | [],r,h=>by
  simp only[cS,pure,Option.some.injEq]at h;subst h;exact⟨rfl,fun i x y hx _=>by simp at hx⟩
 | a :: l,r,h=>by
  rw[bx]at h
  cases ha:f a with
  | none=>rw[ha]at h;cases h
  | some b=>
   rw[ha]at h
   cases hl:l.mapM f with
   | none=>simp[hl]at h
   | some bs=>
    simp[hl]at h;subst h;obtain⟨h1,h2⟩:=SJ hl;refine⟨by simp[h1],fun i x y hx hy=>?_⟩
    cases i with
    | zero=>simp at hx hy;subst hx;subst hy;exact ha
    | succ i=>simp at hx hy;exact h2 i x y hx hy
theorem HQ{w:al}{base:Nat}{ds:List D}(h:w.cells? base a n=G ds):(M ds)=n/\∀i (hi:i<(M ds)),w.cell? (a.add i)=G ds[i]:=by
 unfold World.cells? at h;split at h
 .obtain⟨h1,h2⟩:=SJ h;rw[bS]at h1;refine⟨h1,fun i hi=>h2 i i ds[i] ?_ ?_⟩
  .rw[br mD]
  .exact a1 hi
 .cases h
theorem nC{w:al}(h:w.cell? (a.add i)=G v)(hi:i=0):a.spot=U:=by
 subst hi;have e:a.add 0=a:=by simp[Addr.add]
 rw[e]at h;unfold World.cell? at h;split at h
 .split at h
  .cases h
  .rename_i hs;simpa using hs
 .cases h
theorem RZ{H:Type}{q:Nat->Bool}:∀(ts:List O) (ds:List (DataW H)),(DataW.weightsEach P ts ds).all q=true->∀(i:Nat) (t:O) (d:DataW H),ts[i]? = G t->ds[i]? = G d->(d.weights P t).all q=true
 | [],_,_,i,t,d,ht,_=>by simp at ht
 | t :: ts,[],_,i,t',d,_,hd=>by simp at hd
 | t :: ts,d :: ds,h,i,t',d',ht,hd=>by
  simp only[DataW.weightsEach,bo,au]at h
  cases i with
  | zero=>simp at ht hd;subst ht;subst hd;exact h.1
  | succ i=>simp at ht hd;exact RZ ts ds h.2 i t' d' ht hd
theorem VU{H:Type}{q:Nat->Bool}:∀(ds:List (DataW H)),(DataW.weightsAll P e ds).all q=true->∀(i:Nat) (d:DataW H),ds[i]? = G d->(d.weights P e).all q=true
 | [],_,i,d,hd=>by simp at hd
 | d :: ds,h,i,d',hd=>by
  simp only[DataW.weightsAll,bo,au]at h
  cases i with
  | zero=>simp at hd;subst hd;exact h.1
  | succ i=>simp at hd;exact VU ds h.2 i d' hd
theorem TN{H:Type}{enc:O × D->H}{w:al}:∀(k:Nat) (t:O) (cs:List D) (d:DataW H) (ps:List MemPlace),
  DataW.trod enc P w 0 (fun _=>true) true k t cs=G (d,ps)->(d.weights P t).all (· <= reachBytes)=true->fit P w.heap k t cs
 | 0,t,cs,d,ps,h,_=>by simp[DataW.trod]at h
 | k+1,t,cs,d,ps,h,hw=>by
  unfold DataW.trod at h;unfold fit;split at h
  .rename_i hu;rw[hu];exact⟨_,rfl⟩
  .rename_i i i' n hu;rw[hu];split at h
   .rename_i hc;obtain⟨rfl,hc⟩:=hc;exact⟨_,rfl,hc⟩
   .cases h
  .rename_i hu;rw[hu];trivial
  .rename_i s hu;rw[hu];split at h
   .simp only[Option.some.injEq,Prod.mk.injEq]at h;obtain⟨rfl,_⟩:=h;refine⟨_,rfl,?_⟩
    simpa [DataW.weights] using hw
   .cases h
  .rename_i hu;rw[hu];trivial
  .rename_i hu;rw[hu];trivial
  .rename_i e hu;rw[hu];exact⟨_,_,_,rfl,bl _,sW,fun h=>(h rfl).elim⟩
  .rename_i e a len cap hu;rw[hu];split at h
   .rename_i ME;simp only[if_true]at h
    cases he:((bg len).mapM fun i=>(w.cells? 0 (a.add (i*P.cellsOf e)) (P.cellsOf e)).bind (DataW.trod enc P w 0 (fun _=>true) true k e)) with
    | none=>rw[he]at h;cases h
    | some elems=>
     rw[he]at h;simp only[am]at h
     cases hr:((bg (cap-len)).mapM fun j=>(w.cells? 0 (a.add ((len+j)*P.cellsOf e)) (P.cellsOf e)).bind (DataW.trod enc P w 0 (fun _=>true) true k e)) with
     | none=>rw[hr]at h;cases h
     | some rest=>
      rw[hr]at h;simp only[aF,Option.some.injEq,Prod.mk.injEq]at h;obtain⟨rfl,_⟩:=h;obtain⟨l1,g1⟩:=SJ he;obtain⟨l2,_⟩:=SJ hr;rw[bS]at l1 l2;simp only[DataW.weights,hu,bk,bo,au,List.length_map,decide_eq_true_eq]at hw;refine⟨_,_,_,rfl,ME.2.1,?_,fun hlen hce=>?_⟩
      .have:(M elems)+(M rest)=cap:=mD;rw[<-this];exact hw.1
      .have Zi9:∀i,i<len->∃ds x,w.cells? 0 (a.add (i*P.cellsOf e)) (P.cellsOf e)=G ds/\elems[i]? = G x/\DataW.trod enc P w 0 (fun _=>true) true k e ds=G x:=by
        intro i hi;have hx:elems[i]? = G elems[i]:=a1 mD;have:=g1 i i elems[i] (by rw[br hi]) hx
        cases hc:w.cells? 0 (a.add (i*P.cellsOf e)) (P.cellsOf e) with
        | none=>rw[hc]at this;cases this
        | some ds=>rw[hc]at this;exact⟨ds,_,rfl,hx,this⟩
       obtain⟨ds0,x0,Ca,_,_⟩:=Zi9 0 mD;obtain⟨q1,q2⟩:=HQ Ca;have e0:a.add (0*P.cellsOf e)=a:=by simp[Addr.add]
       rw[e0]at q2;have Nm:a.spot=U:=nC (q2 0 mD) rfl;have Zfz:w.cell? a=G ds0[0]:=by have:=q2 0 mD;simpa [Addr.add] using this
       have ZV:a.block<w.heap.size:=WF (h:=w.heap) (p:=a) (v:=ds0[0]) Zfz;refine⟨a.block,a.off,?_,ZV,fun i hi=>?_⟩
       .obtain⟨b,o,s⟩:=a;simp only at Nm;subst Nm;rfl
       .obtain⟨ds,x,hc,hx,ht⟩:=Zi9 i hi;obtain⟨r1,r2⟩:=HQ hc;refine⟨ds,r1,fun j hj=>?_,?_⟩
        .have:=r2 j hj;rw[Oz a _ Nm,XL]at this;exact this
        .refine TN k e ds x.1 x.2 ht ?_;exact VU _ hw.2.1 i x.1 (by rw[bf,hx];rfl)
   .cases h
  .rename_i cs _ _ fs hu;rw[hu];split at h
   .rename_i hlen
    cases hm:(fs.toList.mapM fun f=>DataW.trod enc P w 0 (fun _=>true) true k f.type ((cs.drop f.offset).take (P.cellsOf f.type))) with
    | none=>rw[hm]at h;cases h
    | some xs=>
     rw[hm]at h;simp only[aF,Option.some.injEq,Prod.mk.injEq]at h;obtain⟨rfl,_⟩:=h;obtain⟨l1,g1⟩:=SJ hm;refine⟨hlen,fun f hf=>?_⟩;obtain⟨i,hi,BQ⟩:=List.mem_iff_getElem.1 hf;have hx:xs[i]? = G xs[i]:=a1 mD;have Zja:fs.toList[i]? = G f:=by rw[a1 hi,BQ]
     refine TN k _ _ xs[i].1 xs[i].2 (g1 i f xs[i] Zja hx) ?_;simp only[DataW.weights,hu]at hw;exact RZ _ _ hw i f.type xs[i].1 (by rw[bf,Zja];rfl) (by rw[bf,hx];rfl)
   .cases h
  .rename_i cs _ _ n e hu;rw[hu];split at h
   .rename_i hlen
    cases hm:((bg n).mapM fun i=>DataW.trod enc P w 0 (fun _=>true) true k e ((cs.drop (i*P.cellsOf e)).take (P.cellsOf e))) with
    | none=>rw[hm]at h;cases h
    | some xs=>
     rw[hm]at h;simp only[aF,Option.some.injEq,Prod.mk.injEq]at h;obtain⟨rfl,_⟩:=h;obtain⟨l1,g1⟩:=SJ hm;rw[bS]at l1;refine⟨hlen,fun i hi=>?_⟩;have hx:xs[i]? = G xs[i]:=a1 mD;refine TN k _ _ xs[i].1 xs[i].2 (g1 i i xs[i] (by rw[br hi]) hx) ?_;simp only[DataW.weights,hu]at hw;exact VU _ hw i xs[i].1 (by rw[bf,hx];rfl)
   .cases h
  all_goals first|(cases h;done)|(rename_i hu;rw[hu];trivial)
theorem ZbT{w:al}{r:Reach}{base:Nat}{cs:Array D}(ha:ta P t=G false)(h:Value.okWide P w r base t (aw cs)):False:=by
 unfold ta at ha;unfold Value.okWide at h
 cases hu:P.underlying t with
 | none=>rw[hu]at ha;cases ha
 | some d=>
  rw[hu]at ha h
  cases d<;>simp at ha<;>simp[Cell.okWide,Cell.ok,hu]at h
theorem ZbU{H:Type}{enc:O × D->H}{w:al}{r:Reach}{base:Nat}{d:DataW H}{ps:List MemPlace}(dK:(ta P t).isSome=true)(QZ:Value.okWide P w r base t v)(h:DataW.Trod enc P w 0 (fun _=>true) true t v d ps)(hw:(d.weights P t).all (· <= reachBytes)=true):∃k,nA P w.heap k t v:=by
 obtain⟨k,hk⟩:=h;have hf:=TN k t _ d ps hk hw;refine⟨k,?_⟩;unfold nA
 cases ha:ta P t with
 | none=>rw[ha]at dK;cases dK
 | some b=>
  cases b with
  | true=>
   unfold ta at ha;unfold Value.okWide at QZ
   cases hu:P.underlying t with
   | none=>rw[hu]at ha;cases ha
   | some d'=>
    rw[hu]at ha QZ;have:∃cs,v=aw cs:=by
     cases d'<;>simp at ha<;>(obtain⟨cs,hv,_⟩:=QZ;exact⟨cs,hv⟩)
    obtain⟨cs,rfl⟩:=this;exact⟨cs.toList,sW,hf⟩
  | false=>
   have:v.cells.toList=[v]:=by
    cases v with
    | agg cs=>exact (ZbT ha QZ).elim
    | _=>rfl
   rw[this]at hf;exact hf
theorem EK{H:Type}{enc:O × D->H}{w:al}{base:Nat}:∀(ts:List O) (vs:List D) (ds:List (DataW H)) (ps:List MemPlace),
  ts.all (fun t=>(ta P t).isSome)=true->(∀(j:Nat) t v,ts[j]? = G t->vs[j]? = G v->Value.okWide P w .any base t v)->DataW.TrodAll enc P w 0 (fun _=>true) true ts vs ds ps ->
  (DataW.weightsEach P ts ds).all (· <= reachBytes)=true->fitAll P w.heap ts vs
 | [],vs,ds,ps,_,_,h,_=>by
  obtain⟨rfl,rfl,rfl⟩:=trodAll_nil h;trivial
 | t :: ts,vs,ds,ps,ha,hv,h,hw=>by
  obtain⟨v,vs',d,ds',p,q,rfl,rfl,rfl,h1,h2⟩:=trodAll_cons h;simp only[bk,au]at ha;simp only[DataW.weightsEach,bo,au]at hw;exact⟨ZbU ha.1 (hv 0 t v rfl rfl) h1 hw.1,EK ts vs' ds' q ha.2 (fun j t v ht Ao=>hv (j+1) t v ht Ao) h2 hw.2⟩
theorem No{H:Type}{enc:O × D->H}(hl:laidOutB P=true){W W':al}(hb:Below W.heap.size W W'):∀(ts:List O) (vs:List D) (ds:List (DataW H)) (ps:List MemPlace),
  ts.all (fun t=>P.readableRec t&&decide (t<P.types.size))=true->DataW.TrodAll enc P W 0 (fun _=>true) true ts vs ds ps->(∀x∈ps,x.block<W.heap.size) ->
  DataW.TrodAll enc P W' 0 (fun b=>decide (b<W.heap.size)) true ts vs ds ps
 | [],vs,ds,ps,_,h,_=>by
  obtain⟨rfl,rfl,rfl⟩:=trodAll_nil h;rfl
 | t :: ts,vs,ds,ps,ha,h,ZV=>by
  obtain⟨v,vs',d,ds',p,q,rfl,rfl,rfl,h1,h2⟩:=trodAll_cons h;simp only[bk,au,decide_eq_true_eq]at ha;exact⟨p,q,Below.trod hl ha.1.1 ha.1.2 h1 hb (fun x hx=>ZV x (by simp[hx])),No hl hb ts vs' ds' q ha.2 h2 (fun x hx=>ZV x (by simp[hx])),rfl⟩
theorem PB{H:Type}{enc:O × D->H}{w:al}{sp:Nat->Bool}{hd:Bool}:∀(ts:List O) (vs:List D) (ds:List (DataW H)) (ps:List MemPlace),DataW.TrodAll enc P w b sp hd ts vs ds ps->(M ds)=(M ts)
 | [],vs,ds,ps,h=>by obtain⟨rfl,rfl,rfl⟩:=trodAll_nil h;rfl
 | t :: ts,vs,ds,ps,h=>by
  obtain⟨v,vs',d,ds',p,q,rfl,rfl,rfl,h1,h2⟩:=trodAll_cons h;simp[PB ts vs' ds' q h2]
theorem vo{W W':al}(hs:Sg W W' h')(hb:Zk W.heap.size W.heap h'):Below W.heap.size W W':=
 ⟨hs.os,hs.tape,hs.output,by rw[hs.heap];exact hb.size,fun k hk=>by rw[hs.heap];exact hb.block k hk⟩
theorem vq{rest:List (List Char)}(h:behindMainWord (wordsSigns P.initOrder.toList) = "cut".toList :: rest):P.make=G .cut:=by
 unfold Program.make;rw[h];simp only;rw[if_neg KC,if_pos (by rfl)]
theorem EL(rest:List (List Char)):stripLifts liftWords ("cut".toList :: rest)=([], "cut".toList :: rest):=by rfl
theorem nE{rest:List (List Char)}(h:behindMainWord (wordsSigns P.initOrder.toList) = "cut".toList :: rest):P.liftsFinal=false:=by
 unfold Program.liftsFinal Program.headLifts;rw[h,EL];rfl
theorem nF{rest:List (List Char)}(h:behindMainWord (wordsSigns P.initOrder.toList) = "cut".toList :: rest)(h1:P.laysLater=false)(h2:P.bearsReflect=false)(h3:P.doorFits []=true):P.mayEnter=true:=by
 unfold Program.mayEnter;rw[h];simp only[EL,h1,h2,h3];rw[Bool.or_eq_true];exact .inr rfl
theorem nG{L:List Char}(h:P.initOrder=String.ofList L)(h2:((behindMainWord (wordsSigns L)).head? == G "cut".toList)=true):∃rest,behindMainWord (wordsSigns P.initOrder.toList) = "cut".toList :: rest:=by
 rw[h,String.toList_ofList]
 revert h2
 cases behindMainWord (wordsSigns L) with
 | nil=>intro h;cases h
 | cons a l=>
  intro h;have h':a = "cut".toList:=by
   have:=eq_of_beq h
   simpa using this
  exact⟨l,by rw[h']⟩
attribute [go_sem ↓] reduceIte
end Go.V
