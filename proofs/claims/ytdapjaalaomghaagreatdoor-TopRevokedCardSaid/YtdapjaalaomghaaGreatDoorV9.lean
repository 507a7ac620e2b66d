/- Part V9. -/
import Derived.Calls
import Derived.OrdersHeld
import Derived.Still
import Derived.Tactics
import Derived.Laws.Sem
import Derived.KernelRfl
import Derived.IntWalk
import Derived.Laws.Strings
import Derived.WalkKit
import Derived.ProofKit
import Derived.OpenShut
import Derived.SizedLaws
import Derived.JoinedCond
import Derived.Deep.CondSized
import Derived.Carry
open Go.Value renaming pointer→J,slice→Z,bool→ab,agg→aw
open Go.Obj renaming cells→Y
open List renaming length→M,eq_nil_of_length_eq_zero→a0,getElem?_eq_getElem→a5,length_cons→bd,length_append→bg,getElem?_map→bk,range→bl,all_cons→bp,all_append→bw,length_pos_iff→bx,getElem?_range→bA,mapM_cons→bG,getD_eq_getElem?_getD→bQ,getElem?_append_left→bR,length_range→b1,all_eq_true→b2,getElem?_cons_zero→b4,getElem?_cons_succ→b5,getElem?_toArray→cc,drop_succ_cons→ch,set_cons_zero→ck,set_cons_succ→cn,mapM_toArray→cp,size_toArray→ct,length_drop→cv,cons_append→cx,range'→cy,length_nil→cF,mapM_nil→cN,map_cons→cP
open Nat renaming mod_eq_of_lt→a7,mul_le_mul_right→a8,add_mul→bh,le_refl→br,pow_le_pow_right→bt,zero_add→b7,add_assoc→cj,add_zero→cq,add_comm→cr,sub_mul→cz,min_eq_left→cL,ble→cS
open Int renaming toNat_natCast→cu
open Option renaming bind_some→am,map_some→aU,isSome_none→bP,some→G,none→U
open Array renaming getElem?_setIfInBounds→ao,getElem?_push→a1,getElem?_eq_some_iff→a3,ext_getElem?→ba,toList_setIfInBounds→bb,getElem?_eq_getElem→be,size_push→bf,toList_map→bn,getD_eq_getD_getElem?→bC,range→bS,toList_inj→b3,getElem?_eq_none→b6,mem_of_getElem?→b9,getElem?_toList→ca,toArray_toList→cf,replicate→cB,zipIdx→cT
open Bool renaming and_eq_true→aq,false_eq_true→a2
open Go.IntWalk renaming i64_in→cg
open Go.Builtin renaming nextslicecap→a6,growBy→bc,zeroCells→b0,append_→b8,len_→cW
open Go.Region renaming ready→a9,wanted→bo,noSelect_spec→cd,binds→co,free_spec→cw,noSelect→cA
open Go renaming Value→D,TypeId→O,Program→aa,World→al,Operand→a4
namespace Go.V
theorem nT{p:Prop}(h:p:=by omega):p:=h
theorem uj{p:Prop}(h:p:=by kernel_rfl):p:=h
theorem uK{p:Prop}(h:p:=by simp):p:=h
theorem Hy{p:Prop}(h:p:=by intro e;cases e):p:=h
theorem Ig{p:Prop}(h:p:=by simp;omega):p:=h
theorem Iw{p:Prop}(h:p:=by decide):p:=h
theorem aaa{p:Prop}(h:p:=by first|omega|(simp;omega)):p:=h
theorem aab{p:Prop}(h:p:=by assumption):p:=h
theorem aac{p:Prop}(h:p:=by rw[List.length_take];omega):p:=h
theorem aad{p:Prop}(h:p:=by rw[cv];omega):p:=h
theorem aae{p:Prop}(h:p:=by simp only[a1,bf,IntWalk.iteOmega,↓reduceIte]):p:=h
theorem aaf{p:Prop}(h:p:=by rw[bg];omega):p:=h
theorem aag{p:Prop}(h:p:=by simp only[bf];omega):p:=h
theorem aah{p:Prop}(h:p:=by simp only[List.length_singleton];omega):p:=h
theorem aai{p:Prop}(h:p:=by intro q;cases q):p:=h
variable{B b cap i len m n o:Nat}{E e t:O}{P:aa}{a:Addr}{cs l:List D}{d:Option Tmp}{k:IntKind}{lo:Option D}{ops:List Oper}{parts:List (Nat × D)}{place:Nat->Option (Nat × Nat)}{v:D}{x y:a4}{α:Type}
theorem ZN(x:α):∃y,y=x:=⟨x,rfl⟩
abbrev Env:=Nat->D
def upd(F:Env)(d:Nat)(v:D):Env:=fun t=>if t=d then v else F t
def YB(F:Env):Option Nat->D->Env
 | none,_=>F
 | some d,v=>upd F d v
def ev(F:Env):a4->D
 | .tmp t=>F t
 | .const v=>v
 | .global g=>J (G ⟨g,0,U⟩)
 | .func f=>.func (.func f) #[] #[]
def Hb:List D->Nat->Env
 | [],_=>fun _=>undef
 | v :: l,k=>upd (Hb l (k+1)) k v
def env(a:Act):Env:=fun t=>a.tmps.getD t undef
theorem AD(a:Act):a.eval=ev (env a):=by
 funext x;cases x<;>rfl
theorem HC(a:Act)(dst:Option Nat)(v:D)(h:∀d,dst=G d->d<a.tmps.size):env (a.put dst v)=YB (env a) dst v:=by
 cases dst with
 | none=>rfl
 | some d=>
  funext t
  have hd:=h d rfl;simp only[env,Act.put,YB,upd,bC,ao];by_cases htd:d=t
  .subst htd;simp[hd]
  .rw[if_neg htd,if_neg (fun h=>htd h.symm)]
theorem MI(a:Act)(dst:Option Nat)(v:D):(a.put dst v).tmps.size=a.tmps.size:=by
 cases dst<;>simp[Act.put]
abbrev Hp:=Array Obj
variable{N:Env->Hp->Prop}{Q:D->Hp->Prop}{h h':Hp}
structure Sz(T:al)(w:al)(h:Hp):Prop where
 heap:w.heap=h
 tape:w.tape=T.tape
 os:w.os=T.os
 output:w.output=T.output
def hc(h:Hp)(a:Addr):Option D:=
 match h[a.block]? with
 | some (Y c _ _)=>if a.spot.isSome then U else c[a.off]?
 | _=>U
def Tj(h:Hp)(r:Nat):Option (O × Nat):=
 match h[r]? with
 | some (Y c elem _)=>G (elem,c.size)
 | _=>U
def uL(h:Hp)(a:Addr):Bool:=
 match h[a.block]? with
 | some (Y _ _ (lo,hi))=>lo<=a.off&&a.off<hi
 | _=>false
def nU(h:Hp)(a:Addr)(v:D):Hp:=
 h.modify a.block fun
  | Y c elem frozen=>Y (if a.spot.isSome then c else c.setIfInBounds a.off v) elem frozen
  | o=>o
def RN(h:Hp)(a:Addr)(n:Nat):Hp:=
 if n=0 then h else
 h.modify a.block fun
  | Y c elem (lo,hi)=>Y c elem (if lo == hi then (a.off,a.off+n) else (min lo a.off,max hi (a.off+n)))
  | o=>o
def HD:Obj->Bool
 | .cells .. => true
 | _=>false
def YD:D->Bool
 | aw _|.tuple _=>false
 | _=>true
def hw{α:Type}(P:aa):Sem α->(α->Hp->Prop)->Hp->Prop
 | .pure a,Q,h=>Q a h
 | .load _ a k,Q,h=>∃v,hc h a=G v/\hw P (k v) Q h
 | .store _ a v k,Q,h=>YD v=true/\(∃u,hc h a=G u)/\uL h a=false/\hw P k Q (nU h a v)
 | .new o k,Q,h=>hw P (k h.size) Q (h.push o)
 | .shape r k,Q,h=>hw P (k (Tj h r)) Q h
 | .freeze a n k,Q,h=>hw P k Q (RN h a n)
 | .frozen a k,Q,h=>hw P (k (uL h a)) Q h
 | .getObj r k,Q,h=>∃o,h[r]? = G o/\HD o=false/\hw P (k o) Q h
 | .setObj r o k,Q,h=>(∃o',h[r]? = G o'/\HD o'=false)/\hw P k Q (h.setIfInBounds r o)
 | .choose q k,Q,h=>if q.forced then hw P (k 0) Q h else ∀t,hw P (k (q.cut t)) Q h
 | .sys _ _,_,_=>False
 | .program k,Q,h=>hw P (k P) Q h
 | .mark _ k,Q,h=>hw P k Q h
 | .halt _,_,_=>False
theorem uM{T:al}:∀(s:Sem α) (Q:α->Hp->Prop) (h:Hp),hw P s Q h->∀w,Sz T w h ->
  ∃a w' h',s.run P w=.ok a w'/\Sz T w' h'/\Q a h':=by
 intro s
 induction s with
 | pure a=>intro Q h H w hs;exact⟨a,w,h,rfl,hs,H⟩
 | load m a k ih=>
  intro Q h H w hs;obtain⟨v,hv,H⟩:=H;obtain⟨a',w',h',hr,r⟩:=ih v Q h H w hs;refine⟨a',w',h',?_,r⟩;have:w.cell? a=G v:=by rw[World.cell?,hs.heap];exact hv
  rw[Sem.run,this];exact hr
 | store m a v k ih=>
  intro Q h H w hs;obtain⟨h1,⟨u,h2⟩,h3,H⟩:=H;have P9:Sz T (w.setCell a v) (nU h a v):=⟨by simp only[World.setCell,nU,hs.heap];rfl,hs.tape,hs.os,hs.output⟩
  obtain⟨a',w',h',hr,r⟩:=ih Q _ H _ P9;refine⟨a',w',h',?_,r⟩;have e1:w.cell? a=G u:=by rw[World.cell?,hs.heap];exact h2
  have e2:w.frozen? a=false:=by rw[World.frozen?,hs.heap];exact h3
  cases v<;>first|(simp[YD]at h1;done)|(simp only[Sem.run,e1,e2,a2,if_false];exact hr)
 | new o k ih=>
  intro Q h H w hs;have P9:Sz T { w with heap:=w.heap.push o } (h.push o):=⟨by simp only[hs.heap],hs.tape,hs.os,hs.output⟩
  have e:w.heap.size=h.size:=by rw[hs.heap]
  obtain⟨a',w',h',hr,r⟩:=ih h.size Q _ H _ P9;refine⟨a',w',h',?_,r⟩;rw[Sem.run,e];exact hr
 | shape r k ih=>
  intro Q h H w hs;obtain⟨a',w',h',hr,r'⟩:=ih _ Q h H w hs;refine⟨a',w',h',?_,r'⟩;have:w.shape? r=Tj h r:=by rw[World.shape?,hs.heap];rfl
  rw[Sem.run,this];exact hr
 | freeze a n k ih=>
  intro Q h H w hs;have P9:Sz T (w.freeze a n) (RN h a n):=by
   unfold World.freeze RN;split
   .exact hs
   .exact⟨by simp only[hs.heap];rfl,hs.tape,hs.os,hs.output⟩
  obtain⟨a',w',h',hr,r'⟩:=ih Q _ H _ P9;exact⟨a',w',h',by rw[Sem.run];exact hr,r'⟩
 | frozen a k ih=>
  intro Q h H w hs;obtain⟨a',w',h',hr,r'⟩:=ih _ Q h H w hs;refine⟨a',w',h',?_,r'⟩;have:w.frozen? a=uL h a:=by rw[World.frozen?,hs.heap];rfl
  rw[Sem.run,this];exact hr
 | getObj r k ih=>
  intro Q h H w hs;obtain⟨o,ho,hc,H⟩:=H;obtain⟨a',w',h',hr,r'⟩:=ih o Q h H w hs;refine⟨a',w',h',?_,r'⟩;have e:w.heap[r]? = G o:=by rw[hs.heap];exact ho
  simp only[Sem.run,e]
  cases o<;>first|(simp[HD]at hc;done)|exact hr
 | setObj r o k ih=>
  intro Q h H w hs;obtain⟨⟨o',ho,hc⟩,H⟩:=H;have P9:Sz T { w with heap:=w.heap.setIfInBounds r o } (h.setIfInBounds r o):=⟨by simp only[hs.heap],hs.tape,hs.os,hs.output⟩
  obtain⟨a',w',h',hr,r'⟩:=ih Q _ H _ P9;refine⟨a',w',h',?_,r'⟩;have e:w.heap[r]? = G o':=by rw[hs.heap];exact ho
  simp only[Sem.run,e]
  cases o'<;>first|(simp[HD]at hc;done)|exact hr
 | choose q k ih=>
  intro Q h H w hs;simp only[hw]at H;split at H
  .rename_i hq;obtain⟨a',w',h',hr,r'⟩:=ih _ Q h H w hs;exact⟨a',w',h',by rw[Sem.run,if_pos hq];exact hr,r'⟩
  .rename_i hq;have P9:Sz T { w with drawn:=w.drawn+1 } h:=⟨hs.heap,hs.tape,hs.os,hs.output⟩
   obtain⟨a',w',h',hr,r'⟩:=ih _ Q h (H (w.tape w.drawn q)) _ P9;exact⟨a',w',h',by rw[Sem.run,if_neg hq];exact hr,r'⟩
 | sys c k ih=>intro Q h H;exact H.elim
 | program k ih=>
  intro Q h H w hs;obtain⟨a',w',h',hr,r'⟩:=ih _ Q h H w hs;exact⟨a',w',h',by rw[Sem.run];exact hr,r'⟩
 | mark m k ih=>
  intro Q h H w hs;obtain⟨a',w',h',hr,r'⟩:=ih Q h H w hs;exact⟨a',w',h',by rw[Sem.run];exact hr,r'⟩
 | halt x=>intro Q h H;exact H.elim
theorem Zk{β:Type}(s:Sem α)(f:α->Sem β)(Q:β->Hp->Prop):∀h,hw P (s >>= f) Q h=hw P s (fun a h'=>hw P (f a) Q h') h:=by
 show ∀h,hw P (s.bind f) Q h=_
 induction s with
 | pure a=>intro h;rfl
 | load m a k ih=>intro h;simp only[Sem.bind,hw,ih]
 | store m a v k ih=>intro h;simp only[Sem.bind,hw,ih]
 | new o k ih=>intro h;simp only[Sem.bind,hw,ih]
 | shape r k ih=>intro h;simp only[Sem.bind,hw,ih]
 | freeze a n k ih=>intro h;simp only[Sem.bind,hw,ih]
 | frozen a k ih=>intro h;simp only[Sem.bind,hw,ih]
 | getObj r k ih=>intro h;simp only[Sem.bind,hw,ih]
 | setObj r o k ih=>intro h;simp only[Sem.bind,hw,ih]
 | choose q k ih=>intro h;simp only[Sem.bind,hw,ih]
 | sys c k ih=>intro h;simp only[Sem.bind,hw]
 | program k ih=>intro h;simp only[Sem.bind,hw,ih]
 | mark m k ih=>intro h;simp only[Sem.bind,hw,ih]
 | halt x=>intro h;rfl
theorem kY{Q Q':α->Hp->Prop}(hq:∀a h,Q a h->Q' a h):∀(s:Sem α) (h:Hp),hw P s Q h->hw P s Q' h:=by
 intro s
 induction s with
 | pure a=>intro h H;exact hq _ _ H
 | load m a k ih=>intro h H;obtain⟨v,hv,H⟩:=H;exact⟨v,hv,ih _ _ H⟩
 | store m a v k ih=>intro h H;obtain⟨h1,h2,h3,H⟩:=H;exact⟨h1,h2,h3,ih _ H⟩
 | new o k ih=>intro h H;exact ih _ _ H
 | shape r k ih=>intro h H;exact ih _ _ H
 | freeze a n k ih=>intro h H;exact ih _ H
 | frozen a k ih=>intro h H;exact ih _ _ H
 | getObj r k ih=>intro h H;obtain⟨o,h1,h2,H⟩:=H;exact⟨o,h1,h2,ih _ _ H⟩
 | setObj r o k ih=>intro h H;obtain⟨h1,H⟩:=H;exact⟨h1,ih _ H⟩
 | choose q k ih=>
  intro h H;simp only[hw]at H ⊢;split at H
  .rename_i hf;rw[if_pos hf];exact ih _ _ H
  .rename_i hf;rw[if_neg hf];exact fun t=>ih _ _ (H t)
 | sys c k ih=>intro h H;exact H
 | program k ih=>intro h H;exact ih _ _ H
 | mark m k ih=>intro h H;exact ih _ H
 | halt x=>intro h H;exact H
def Zd(P:aa)(T:al)(f:FuncId)(args:Array D)(h:Hp)(Q:D->Hp->Prop):Prop:=
 ∀w,Sz T w h->Calls P f args w fun e w'=>∃v h',e=.returned v/\Sz T w' h'/\Q v h'
theorem Zd.mono{T:al}{f:FuncId}{args:Array D}{Q':D->Hp->Prop}(H:Zd P T f args h Q)(hq:∀v h',Q v h'->Q' v h'):Zd P T f args h Q':=
 fun w hs=>(H w hs).mono fun _ _ ⟨v,h',he,P9,q⟩=>⟨v,h',he,P9,hq _ _ q⟩
def Jt(P:aa)(T:al)(K:D->Hp->Prop):Next->Hp->Prop
 | .value v,h=>K v h
 | .skip,h=>K undef h
 | .enter f args,h=>Zd P T f args h K
 | _,_=>False
def Ew(P:aa)(T:al)(o:Oper)(K:D->Hp->Prop)(F:Env)(h:Hp):Prop:=
 hw P (execOp (ev F) o) (Jt P T K) h
theorem Gc{T:al}{K K':D->Hp->Prop}(hk:∀v h,K v h->K' v h):∀(x:Next) (h:Hp),Jt P T K x h->Jt P T K' x h:=by
 intro x h H
 cases x<;>simp only[Jt]at H ⊢<;>first|exact hk _ _ H|exact H.mono hk
theorem MK{T:al}{o:Oper}{K K':D->Hp->Prop}{F:Env}(hk:∀v h,K v h->K' v h)(H:Ew P T o K F h):Ew P T o K' F h:=
 kY (Gc hk) _ _ H
theorem Dh{T:al}{o:Oper}{K:D->Hp->Prop}{F:Env}(H:Ew P T o K F h){a:Act}{w:al}(hF:env a=F)(hs:Sz T w h){next:Act->al->Prop}{Q:Exit->Act->al->Prop}(hk:∀v w' h',Sz T w' h'->K v h'->next (a.put o.dst v) w'):o.wp P a w next Q:=by
 obtain⟨x,w',h',hr,P9,hx⟩:=uM _ _ _ H w hs;unfold Oper.wp;rw[AD,hF,hr]
 cases x<;>simp only[Jt]at hx
 case value v=>exact hk _ _ _ P9 hx
 case skip=>exact hk _ _ _ P9 hx
 case enter f args=>
  simp only[Oper.upon];exact (hx w' P9).mono fun e w'' ⟨v,Kg,he,ZqK,q⟩=>by subst he;exact hk _ _ _ ZqK q
def Ve(ops:Array Oper)(F:Env)(j:Nat):Option Bool:=
 match (ops[j]?).bind (·.dst) with
 | some t=>match F t with
  | ab b=>G b
  | _=>U
 | none=>U
def YI(ops:Array Oper)(o:Oper)(F:Env):Bool:=bo o (Ve ops F)
def uN(n:Nat)(o:Oper):Bool:=match o.dst with|some d=>Nat.blt d n|none=>true
def Ii(n:Nat)(ops:Array Oper):Bool:=ops.toList.all (uN n)
theorem NW{o:Oper}(h:uN n o=true):∀d,o.dst=G d->d<n:=by
 intro d hd;unfold uN at h;rw[hd]at h;exact Nat.blt_eq.mp h
theorem Ij{ops:Array Oper}(Uj:Ii n ops=true)(a:Act)(hn:a.tmps.size=n):yielded ops a.tmps=Ve ops (env a):=by
 funext j
 unfold yielded Ve
 cases hj:ops[j]? with
 | none=>rfl
 | some o=>
  simp only[am]
  cases hd:o.dst with
  | none=>rfl
  | some d=>
   have ZS:d<a.tmps.size:=by
    rw[hn];have hm:o∈ops.toList:=by
     have:=b9 hj
     simpa using this
    exact NW (b2.1 Uj o hm) d hd
   simp only[am];rw[be ZS];have:env a d=a.tmps[d]:=by simp[env,ZS]
   rw[this]
   cases a.tmps[d]<;>rfl
def nV(P:aa)(T:al)(ops:Array Oper)(N:Env->Hp->Prop):List Oper->Env->Hp->Prop
 | [],F,h=>N F h
 | o :: l,F,h=>
  if YI ops o F then Ew P T o (fun v h'=>nV P T ops N l (YB F o.dst v) h') F h
  else nV P T ops N l (YB F o.dst undef) h
def ZbY(n:Nat)(T:al)(N:Env->Hp->Prop)(X:Nat->Env->Hp->Prop)(R:Env->Hp->Prop)(e:Exit)(a:Act)(w:al):Prop:=
 a.tmps.size=n/\a.defers=[]/\∃h,Sz T w h/\match e with
  | .normal=>N (env a) h
  | .exit j=>X j (env a) h
  | .ret=>R (env a) h
  | _=>False
def VS(P:aa)(n:Nat)(T:al)(c:Code)(N:Env->Hp->Prop)(X:Nat->Env->Hp->Prop)(R:Env->Hp->Prop)(F:Env)(h:Hp):Prop:=
 ∀a w,a.tmps.size=n->a.defers=[]->env a=F->Sz T w h->c.wp P (ZbY n T N X R) a w
section
variable {P:aa} {n:Nat} {T:al} {N:Env->Hp->Prop} {X:Nat->Env->Hp->Prop} {R:Env->Hp->Prop} {F:Env} {h:Hp}
theorem VS.mono{c:Code}{N':Env->Hp->Prop}{X':Nat->Env->Hp->Prop}{R':Env->Hp->Prop}(H:VS P n T c N X R F h)(hN:∀F h,N F h->N' F h)(hX:∀j F h,X j F h->X' j F h)(hR:∀F h,R F h->R' F h):VS P n T c N' X' R' F h:=by
 intro a w h1 h2 h3 h4;refine Code.wp_mono (fun e a w ⟨q1,q2,h,q3,q4⟩=>⟨q1,q2,h,q3,?_⟩) (H a w h1 h2 h3 h4)
 cases e<;>simp only at q4 ⊢<;>first|exact hN _ _ q4|exact hX _ _ _ q4|exact hR _ _ q4
theorem VS.seq{c d:Code}(H:VS P n T c (fun F h=>VS P n T d N X R F h) X R F h):VS P n T (.seq c d) N X R F h:=by
 intro a w h1 h2 h3 h4;refine wp_seq (Code.wp_mono (fun e a w ⟨q1,q2,h,q3,q4⟩=>?_) (H a w h1 h2 h3 h4))
 cases e with
 | normal=>exact q4 a w q1 q2 rfl q3
 | exit j=>exact⟨q1,q2,h,q3,q4⟩
 | ret=>exact⟨q1,q2,h,q3,q4⟩
 | _=>exact q4.elim
theorem VS.skip(H:N F h):VS P n T .skip N X R F h:=by
 intro a w h1 h2 h3 h4;exact wp_skip ⟨h1,h2,h,h4,by rw[h3];exact H⟩
theorem VS.ret(H:R F h):VS P n T .ret N X R F h:=by
 intro a w h1 h2 h3 h4;exact wp_ret ⟨h1,h2,h,h4,by rw[h3];exact H⟩
theorem VS.exit{j:Nat}(H:X j F h):VS P n T (.exit j) N X R F h:=by
 intro a w h1 h2 h3 h4;exact wp_exit ⟨h1,h2,h,h4,by rw[h3];exact H⟩
theorem VS.block{j:Nat}{c:Code}(H:VS P n T c N (fun i F h=>if i=j then N F h else X i F h) R F h):VS P n T (.block j c) N X R F h:=by
 intro a w h1 h2 h3 h4;refine wp_block (Code.wp_mono (fun e a w ⟨q1,q2,h,q3,q4⟩=>?_) (H a w h1 h2 h3 h4))
 cases e with
 | normal=>exact⟨q1,q2,h,q3,q4⟩
 | exit i=>
  simp only[Exit.inBlock];simp only at q4;split
  .rename_i uc;rw[if_pos uc]at q4;exact⟨q1,q2,h,q3,q4⟩
  .rename_i uc;rw[if_neg uc]at q4;exact⟨q1,q2,h,q3,q4⟩
 | ret=>exact⟨q1,q2,h,q3,q4⟩
 | _=>exact q4.elim
theorem VS.cond{c:a4}{x y:Code}{b:Bool}(hc:ev F c=ab b)(ht:b=true->VS P n T x N X R F h)(hf:b=false->VS P n T y N X R F h):
  VS P n T (.cond c x y) N X R F h:=by
 intro a w h1 h2 h3 h4;refine wp_cond_split (t:=b) (by rw[AD,h3];exact hc) (fun hb=>ht hb a w h1 h2 h3 h4) (fun hb=>hf hb a w h1 h2 h3 h4)
theorem VS.loop{c:Code}(I:Env->Hp->Prop)(μ:Env->Hp->Nat)(h0:I F h)(round:∀F h,I F h->VS P n T c (fun F' h'=>I F' h'/\μ F' h'<μ F h) X R F h):VS P n T (.loop c) N X R F h:=by
 intro a w h1 h2 h3 h4;refine wp_loop (fun a w=>a.tmps.size=n/\a.defers=[]/\Sz T w w.heap/\I (env a) w.heap) (fun a w=>μ (env a) w.heap)
  ⟨h1,h2,by rw[h4.heap];exact h4,by rw[h3,h4.heap];exact h0⟩ ?_
 intro a w ⟨q1,q2,q3,q4⟩;refine Code.wp_mono (fun e a' w' ⟨p1,p2,h',p3,p4⟩=>?_) (round (env a) w.heap q4 a w q1 q2 rfl q3)
 cases e with
 | normal=>
  have e:=p3.heap;subst e;exact⟨⟨p1,p2,p3,p4.1⟩,p4.2⟩
 | exit j=>exact⟨p1,p2,h',p3,p4⟩
 | ret=>exact⟨p1,p2,h',p3,p4⟩
 | _=>exact p4.elim
theorem Tm{ops:Array Oper}(Uj:Ii n ops=true):∀(l:List Oper) (F:Env) (h:Hp),(∀o∈l,o∈ops.toList)->nV P T ops N l F h ->
  ∀a w,a.tmps.size=n->a.defers=[]->env a=F->Sz T w h->wpList P ops (ZbY n T N X R) l a w
 | [],F,h,_,H,a,w,h1,h2,h3,h4=>⟨h1,h2,h,h4,by rw[h3];exact H⟩
 | o :: l,F,h,hm,H,a,w,h1,h2,h3,h4=>by
  have hd:∀d,o.dst=G d->d<a.tmps.size:=by
   rw[h1];exact NW (b2.1 Uj o (hm o uK))
  have HE:∀o∈l,o∈ops.toList:=fun x hx=>hm x (by simp[hx]);have Gd:bo o (yielded ops a.tmps)=YI ops o F:=by rw[Ij Uj a h1,h3];rfl
  unfold wpList;rw[Gd];unfold nV at H;split at H
  .rename_i hw;rw[if_pos hw];refine .inl (Dh H h3 h4 fun v w' h' P9 hk=>?_);exact Tm Uj l _ h' HE hk _ _ (by rw[MI,h1]) (by cases o.dst<;>exact h2) (by rw[HC a _ _ hd,h3]) P9
  .rename_i hw;rw[if_neg hw];exact Tm Uj l _ h HE H _ _ (by rw[MI,h1]) (by cases o.dst<;>exact h2) (by rw[HC a _ _ hd,h3]) h4
theorem VS.region{id:Nat}{ops:Array Oper}(Uj:Ii n ops=true)(H:nV P T ops N ops.toList F h):VS P n T (.region id ops false) N X R F h:=by
 intro a w h1 h2 h3 h4;exact wp_region_list (Tm Uj ops.toList F h (fun _ h=>h) H a w h1 h2 h3 h4)
def Ut(P:aa)(T:al)(ops:Array Oper)(i:Nat)(K:Env->Hp->Prop)(F:Env)(h:Hp):Prop:=
 match ops[i]? with
 | none=>K F h
 | some o=>if YI ops o F then Ew P T o (fun v h'=>K (YB F o.dst v) h') F h else K (YB F o.dst undef) h
theorem J8{ops:Array Oper}{K K':Env->Hp->Prop}(hk:∀F h,K F h->K' F h){F:Env}(H:Ut P T ops i K F h):Ut P T ops i K' F h:=by
 unfold Ut at *;split at H
 .exact hk _ _ H
 .split at H
  .rename_i hw;rw[if_pos hw];exact MK (fun _ _ q=>hk _ _ q) H
  .rename_i hw;rw[if_neg hw];exact hk _ _ H
def fN(P:aa)(T:al)(ops:Array Oper)(S:Hp->Prop)(N:Env->Hp->Prop):Nat->Array Bool->Env->Hp->Prop
 | 0,listed,F,h=>a9 .any ops listed=[]/\N F h
 | k+1,listed,F,h=>(a9 .any ops listed=[]->N F h) /\
   ∀i∈a9 .any ops listed,Ut P T ops i (fun F' h'=>S h'/\fN P T ops S N k (listed.setIfInBounds i true) F' h') F h
theorem QF{ops:Array Oper}{S:Hp->Prop}(Uj:Ii n ops=true):∀(k:Nat) (listed:Array Bool) (F:Env) (h:Hp),fN P T ops S N k listed F h ->
  ∀a w,a.tmps.size=n->a.defers=[]->env a=F->Sz T w h->wpAny P .any ops (ZbY n T N X R) k listed a w
 | 0,listed,F,h,H,a,w,h1,h2,h3,h4=>⟨H.1,h1,h2,h,h4,by rw[h3];exact H.2⟩
 | k+1,listed,F,h,H,a,w,h1,h2,h3,h4=>by
  refine⟨fun h0=>⟨h1,h2,h,h4,by rw[h3];exact H.1 h0⟩,fun i hi=>?_⟩;have Hi:=H.2 i hi;unfold Ut at Hi;unfold wpOp
  cases ho:ops[i]? with
  | none=>rw[ho]at Hi;exact QF Uj k _ F h Hi.2 a w h1 h2 h3 h4
  | some o=>
   rw[ho]at Hi;simp only at Hi ⊢;have hd:∀d,o.dst=G d->d<a.tmps.size:=by
    rw[h1];exact NW (b2.1 Uj o (by have:=b9 ho;simpa using this))
   have Gd:bo o (yielded ops a.tmps)=YI ops o F:=by rw[Ij Uj a h1,h3];rfl
   rw[Gd];split at Hi
   .rename_i hw;rw[if_pos hw];refine .inl (Dh Hi h3 h4 fun v w' h' P9 hk=>?_);exact QF Uj k _ _ h' hk.2 _ _ (by rw[MI,h1]) (by cases o.dst<;>exact h2) (by rw[HC a _ _ hd,h3]) P9
   .rename_i hw;rw[if_neg hw];exact QF Uj k _ _ h Hi.2 _ _ (by rw[MI,h1]) (by cases o.dst<;>exact h2) (by rw[HC a _ _ hd,h3]) h4
def Wj(P:aa)(T:al)(ops:Array Oper)(S:Hp->Prop)(o:Oper)(v:D)(F:Env):Prop:=
 (YI ops o F=true/\∀h,S h->Ew P T o (fun v' h'=>v'=v/\h'=h) F h)\/(YI ops o F=false/\v=undef)
theorem ZbZ{F:Env}{dst:Option Nat}(hx:∀d,dst=G d->x ≠ .tmp d):ev (YB F dst v) x=ev F x:=by
 cases dst with
 | none=>rfl
 | some d=>
  cases x with
  | tmp t=>
   have Y4:t≠d:=fun e=>hx d rfl (by rw[e]);show (if t=d then v else F t)=F t;rw[if_neg Y4]
  | _=>rfl
theorem Ik{ops:Array Oper}(o:Oper)(hs:∀cs b,o.op ≠ .select cs b)(F:Env)(dst:Option Nat)(v:D)(h:∀d,dst=G d->d ∉ o.looksAt ops):
  execOp (ev (YB F dst v)) o=execOp (ev F) o:=
 execOp_congr o hs fun x hx=>ZbZ fun d hd hxd=>h d hd (by
  subst hxd;exact List.mem_append_left _ (List.mem_filterMap.2 ⟨.tmp d,by simpa using hx,rfl⟩))
theorem ML{ops:Array Oper}(o:Oper)(F:Env)(dst:Option Nat)(v:D)(h:∀d,dst=G d->d ∉ o.looksAt ops):
  YI ops o (YB F dst v)=YI ops o F:=by
 cases dst with
 | none=>rfl
 | some d=>
  unfold YI bo
  cases hg:o.guard with
  | none=>rfl
  | some gw=>
   obtain⟨g,want⟩:=gw;simp only;have hd:=h d rfl;unfold Oper.looksAt at hd;rw[hg]at hd;simp only[List.mem_append,not_or]at hd;have:Ve ops (YB F (G d) v) g=Ve ops F g:=by
    unfold Ve
    cases hb:(ops[g]?).bind (·.dst) with
    | none=>rfl
    | some t=>
     have Y4:t≠d:=fun e=>hd.2 (by rw[hb,e];simp);show (match (if t=d then v else F t) with|ab b=>G b|_=>U)=_;rw[if_neg Y4]
   rw[this]
theorem Di(F:Env){d d':Option Nat}(v v':D)(h:∀x,d=G x->d'≠G x):YB (YB F d v) d' v'=YB (YB F d' v') d v:=by
 cases d with
 | none=>rfl
 | some x=>
  cases d' with
  | none=>rfl
  | some y=>
   have Y4:y≠x:=fun e=>h x rfl (by rw[e])
   funext t
   simp only[YB,upd];by_cases h1:t=y
   .subst h1;rw[if_pos rfl,if_neg Y4,if_pos rfl]
   .rw[if_neg h1];by_cases h2:t=x
    .rw[if_pos h2,if_pos h2]
    .rw[if_neg h2,if_neg h2,if_neg h1]
theorem Wj.put{ops:Array Oper}{S:Hp->Prop}{o:Oper}(hs:∀cs b,o.op ≠ .select cs b){F:Env}(hy:Wj P T ops S o v F){dst:Option Nat}{u:D}(h:∀d,dst=G d->d ∉ o.looksAt ops):Wj P T ops S o v (YB F dst u):=by
 unfold Wj Ew at *;rw[ML o F dst u h,Ik o hs F dst u h];exact hy
theorem Wj.opI{ops:Array Oper}{S:Hp->Prop}{o:Oper}{F:Env}(hi:ops[i]? = G o)(hy:Wj P T ops S o v F)(hS:S h){K:Env->Hp->Prop}(H:K (YB F o.dst v) h):Ut P T ops i K F h:=by
 unfold Ut;rw[hi];rcases hy with⟨hw,hv⟩|⟨hw,rfl⟩
 .simp only[hw,if_true];exact MK (fun v' h' ⟨e1,e2⟩=>by subst e1;subst e2;exact H) (hv h hS)
 .simp only[hw,a2,if_false];exact H
theorem Ge{ops:Array Oper}{S:Hp->Prop}{j:Nat}{oi oj:Oper}(hj:ops[j]? = G oj)(hap:oi.apart ops oj=true)(hsi:∀cs b,oi.op ≠ .select cs b)(hsj:∀cs b,oj.op ≠ .select cs b){K:Env->Hp->Prop}{F:Env}(hy:Wj P T ops S oi v F)(H:Ut P T ops j K (YB F oi.dst v) h):Ut P T ops j (fun F' h'=>Wj P T ops S oi v F'/\K (YB F' oi.dst v) h') F h:=by
 obtain⟨h1,h2,h3⟩:=Oper.apart_spec hap;unfold Ut at *;rw[hj]at *;simp only at *;rw[ML oj F oi.dst v h1]at H;split at H
 .rename_i hw;rw[if_pos hw];unfold Ew at *;rw[Ik oj hsj F oi.dst v h1]at H;refine kY (Gc fun u h' q=>?_) _ _ H;exact⟨hy.put hsi h3,by rw[<-Di F v u h2];exact q⟩
 .rename_i hw;rw[if_neg hw];exact⟨hy.put hsi h3,by rw[<-Di F v undef h2];exact H⟩
theorem Gf{ops:Array Oper}{S:Hp->Prop}{oi:Oper}(hi:ops[i]? = G oi)(AE:∀(j:Nat) (o:Oper) cs b,ops[j]? = G o->o.op ≠ .select cs b):
  ∀(k:Nat) (listed:Array Bool) (F:Env) (h:Hp),
   (∀j oj,ops[j]? = G oj->j≠i->listed.getD j true=false->(∀e∈oj.after,co .any e=true->e.on≠i)->oi.apart ops oj=true) ->
   i∈a9 .any ops listed->Wj P T ops S oi v F->S h ->
   fN P T ops S N k (listed.setIfInBounds i true) (YB F oi.dst v) h->fN P T ops S N (k+1) listed F h:=by
 intro k
 induction k with
 | zero=>
  intro listed F h _ hr hy hS H;refine⟨fun h=>(by rw[h]at hr;cases hr),fun j hj=>?_⟩;by_cases Sa:j=i
  .subst Sa;exact hy.opI hi hS ⟨hS,H⟩
  .have:=ready_mono hj Sa;rw[H.1]at this
   cases this
 | succ k ih=>
  intro listed F h Il hr hy hS H;refine⟨fun h=>(by rw[h]at hr;cases hr),fun j hj=>?_⟩;by_cases Sa:j=i
  .subst Sa;exact hy.opI hi hS ⟨hS,H⟩
  .have h1:=H.2 j (ready_mono hj Sa);obtain⟨AF,oj,nW,Jc⟩:=mem_ready.1 hj;have Cx:∀e∈oj.after,co .any e=true->e.on≠i:=fun e he hb heq=>by
    have h1:=Jc e he hb;have h0:=(mem_ready.1 hr).1;rw[heq]at h1;rcases Nat.lt_or_ge i listed.size with h'|h'
    .simp[h']at h0 h1;rw[h0]at h1;cases h1
    .simp[b6 h']at h1
   have h2:=Ge nW (Il j oj nW Sa AF Cx) (fun cs b=>AE i oi cs b hi) (fun cs b=>AE j oj cs b nW) hy h1;have Gg:∀k ok,ops[k]? = G ok->k≠i->(listed.setIfInBounds j true).getD k true=false ->
     (∀e∈ok.after,co .any e=true->e.on≠i)->oi.apart ops ok=true:=fun k ok hk hki hun AG=>by
    refine Il k ok hk hki ?_ AG;by_cases kZ:j=k
    .subst kZ;exact AF
    .rw[getD_set_ne true kZ]at hun;exact hun
   refine J8 (fun F' h' h3=>⟨h3.2.1,ih (listed.setIfInBounds j true) F' h' Gg (ready_mono hr (Ne.symm Sa)) h3.1 h3.2.1 ?_⟩) h2;rw[Array.setIfInBounds_comm _ _ Sa];exact h3.2.2
def MM(P:aa)(T:al)(ops:Array Oper)(S:Hp->Prop)(N:Env->Hp->Prop):List (Nat × Bool × Oper)->Env->Hp->Prop
 | [],F,h=>N F h
 | (_,q,o) :: l,F,h=>
  if YI ops o F then
   if q then ∃v,(∀h',S h'->Ew P T o (fun v' Kg=>v'=v/\Kg=h') F h')/\MM P T ops S N l (YB F o.dst v) h
   else Ew P T o (fun v h'=>S h'/\MM P T ops S N l (YB F o.dst v) h') F h
  else MM P T ops S N l (YB F o.dst undef) h
def Vz(ops:Array Oper)(l:List (Nat × Bool)):List (Nat × Bool × Oper):=l.map fun (i,q)=>(i,q,ops.getD i default)
def Gi(ops:Array Oper):List (Nat × Bool)->Array Bool->Bool
 | [],listed=>(a9 .any ops listed).isEmpty
 | (i,q) :: l,listed=>
  (if q then (a9 .any ops listed).contains i&&Region.free .any ops listed i else (a9 .any ops listed == [i]))&&Gi ops l (listed.setIfInBounds i true)
theorem Uu{ops:Array Oper}{S:Hp->Prop}(hs:cA ops=true):∀(l:List (Nat × Bool)) (listed:Array Bool) (F:Env) (h:Hp),Gi ops l listed=true->S h ->
  MM P T ops S N (Vz ops l) F h->fN P T ops S N (M l) listed F h
 | [],listed,F,h,hB,_,H=>⟨by simpa [Gi] using hB,H⟩
 | (i,q) :: l,listed,F,h,hB,hS,H=>by
  simp only[Gi,aq]at hB;obtain⟨Wf,SA⟩:=hB;have NX:i∈a9 .any ops listed:=by
   cases q
   .simp only[a2,if_false,beq_iff_eq]at Wf;rw[Wf];simp
   .simp only[if_true,aq]at Wf;simpa using Wf.1
  obtain⟨_,o,ho,_⟩:=mem_ready.1 NX;have hp:Vz ops ((i,q) :: l)=(i,q,o) :: Vz ops l:=by simp[Vz,ho]
  rw[hp]at H;simp only[MM]at H
  cases q with
  | true=>
   simp only[if_true,aq]at Wf H;split at H
   .rename_i hw;obtain⟨v,hv,H⟩:=H;exact Gf ho (cd hs) (M l) listed F h (cw ho Wf.2) NX (.inl ⟨hw,hv⟩) hS (Uu hs l _ _ _ SA hS H)
   .rename_i hw;exact Gf ho (cd hs) (M l) listed F h (cw ho Wf.2) NX (.inr ⟨by simpa using hw,rfl⟩) hS (Uu hs l _ _ _ SA hS H)
  | false=>
   simp only[a2,if_false,beq_iff_eq]at Wf H;refine⟨fun h0=>(by rw[h0]at NX;cases NX),fun j hj=>?_⟩;rw[Wf]at hj;have hj:j=i:=by simpa using hj
   subst hj;unfold Ut;rw[ho];simp only;split at H
   .rename_i hw;rw[if_pos hw];exact MK (fun v h' q=>⟨q.1,Uu hs l _ _ _ SA q.1 q.2⟩) H
   .rename_i hw;rw[if_neg hw];exact⟨hS,Uu hs l _ _ _ SA hS H⟩
def S5(n:Nat)(ops:Array Oper)(l:List (Nat × Bool)):Bool:=
 Ii n ops&&(cA ops&&(Gi ops l (cB ops.size false)&&Nat.beq (M l) ops.size))
theorem VS.held{id:Nat}{ops:Array Oper}(S:Hp->Prop)(l:List (Nat × Bool))(hm:P.follows .mixedOrders=true)(Uj:S5 n ops l=true)(hS:S h)(H:MM P T ops S N (Vz ops l) F h):VS P n T (.region id ops true) N X R F h:=by
 intro a w h1 h2 h3 h4;simp only[S5,aq]at Uj;obtain⟨k1,k2,k3,k4⟩:=Uj;refine wp_region_any hm ?_;have hl:(M l)=ops.size:=Nat.eq_of_beq_eq_true k4;rw[<-hl];refine QF k1 _ _ F h (Uu k2 l _ F h (by rw[hl];exact k3) hS H) a _ h1 h2 h3 ⟨h4.heap,h4.tape,h4.os,h4.output⟩
theorem VS.quiet{id:Nat}{ops:Array Oper}(hm:P.follows .mixedOrders=true)(Uj:S5 n ops ((bl ops.size).map fun i=>(i,true))=true)(H:MM P T ops (fun h'=>h'=h) N (Vz ops ((bl ops.size).map fun i=>(i,true))) F h):VS P n T (.region id ops true) N X R F h:=
 VS.held (fun h'=>h'=h) _ hm Uj rfl H
def hr{α:Type}(P:aa):Sem α->Hp->Option α
 | .pure a,_=>G a
 | .load _ a k,h=>(hc h a).bind fun v=>hr P (k v) h
 | .shape r k,h=>hr P (k (Tj h r)) h
 | .frozen a k,h=>hr P (k (uL h a)) h
 | .program k,h=>hr P (k P) h
 | _,_=>U
theorem uO{T:al}:∀(s:Sem α) (h:Hp) (a:α),hr P s h=G a->∀w,Sz T w h->s.run P w=.ok a w:=by
 intro s
 induction s with
 | pure a=>intro h b H w hs;simp only[hr,Option.some.injEq]at H;rw[H];rfl
 | load m a k ih=>
  intro h b H w hs;simp only[hr]at H
  cases hv:hc h a with
  | none=>rw[hv]at H;cases H
  | some v=>
   rw[hv]at H;have:w.cell? a=G v:=by rw[World.cell?,hs.heap];exact hv
   rw[Sem.run,this];exact ih v h b H w hs
 | shape r k ih=>
  intro h b H w hs;have:w.shape? r=Tj h r:=by rw[World.shape?,hs.heap];rfl
  rw[Sem.run,this];exact ih _ h b H w hs
 | frozen a k ih=>
  intro h b H w hs;have:w.frozen? a=uL h a:=by rw[World.frozen?,hs.heap];rfl
  rw[Sem.run,this];exact ih _ h b H w hs
 | program k ih=>intro h b H w hs;rw[Sem.run];exact ih _ h b H w hs
 | _=>intro h b H;cases H
theorem QN{β:Type}(s:Sem α)(f:α->Sem β):∀h,hr P (s >>= f) h=(hr P s h).bind fun a=>hr P (f a) h:=by
 show ∀h,hr P (s.bind f) h=_
 induction s with
 | load m a k ih=>intro h;simp only[Sem.bind,hr,ih];cases hc h a<;>rfl
 | shape r k ih=>intro h;simp only[Sem.bind,hr,ih]
 | frozen a k ih=>intro h;simp only[Sem.bind,hr,ih]
 | program k ih=>intro h;simp only[Sem.bind,hr,ih]
 | _=>intro h;rfl
def MN(P:aa)(t:O)(v:D)(h:Hp):Option D:=
 match v with
 | J (G a)=>hr P (loadVar t a) h
 | _=>U
def QO(P:aa)(F:Env)(h:Hp):List ResultVar->Option (List D)
 | []=>G []
 | .tmp t :: l=>(QO P F h l).map (F t :: ·)
 | .cell a t :: l=>(MN P t (F a) h).bind fun v=>(QO P F h l).map (v :: ·)
def NY:List D->D
 | [v]=>v
 | l=>.tuple l.toArray
def Gj(P:aa)(l:List ResultVar)(F:Env)(Q:D->Hp->Prop)(h:Hp):Prop:=
 match QO P F h l with
 | some vs=>Q (NY vs) h
 | none=>False
def Zb0(F:Env):ResultVar->Sem D
 | .tmp t=>pure (F t)
 | .cell a t=>do loadVar t (<-asAddr (F a))
theorem nX{F:Env}:∀(l:List ResultVar) (vs:List D),QO P F h l=G vs->hr P (l.mapM (Zb0 F)) h=G vs:=by
 intro l
 induction l with
 | nil=>intro vs H;simp only[QO,Option.some.injEq]at H;subst H;rfl
 | cons x l ih=>
  intro vs H;rw[bG,QN]
  cases x with
  | tmp t=>
   simp only[QO]at H
   cases hl:QO P F h l with
   | none=>rw[hl]at H;cases H
   | some us=>
    rw[hl]at H;simp only[aU,Option.some.injEq]at H;subst H;show (G (F t)).bind _=_;rw[am,QN,ih us hl];rfl
  | cell a t=>
   simp only[QO]at H
   cases hv:MN P t (F a) h with
   | none=>rw[hv]at H;cases H
   | some v=>
    rw[hv]at H
    cases hl:QO P F h l with
    | none=>rw[hl]at H;cases H
    | some us=>
     rw[hl]at H;simp only[am,aU,Option.some.injEq]at H;subst H;have e:hr P (Zb0 F (.cell a t)) h=G v:=by
      show hr P (asAddr (F a) >>= fun b=>loadVar t b) h=G v;unfold MN at hv;split at hv
      .rename_i b hb;rw[hb,QN];exact hv
      .cases hv
     rw[e,am,QN,ih us hl];rfl
theorem AH{fn:Func}{l:List ResultVar}(hl:fn.results=l.toArray){a:Act}{vs:List D}(H:QO P (env a) h l=G vs){w:al}(hs:Sz T w h):
  (results fn a.tmps).run P w=.ok (NY vs) w:=by
 have e:results fn a.tmps=(do let us <-fn.results.mapM (Zb0 (env a));pure (if h:us.size=1 then us[0] else .tuple us)):=by
  have e1:(fun x:ResultVar=>match x with|.tmp t=>(pure (a.tmps.getD t undef):Sem D)|.cell x t=>do loadVar t (<-asAddr (a.tmps.getD x undef)))=Zb0 (env a):=by
   funext x
   cases x<;>rfl
  rw[<-e1];rfl
 rw[e,hl];refine uO (T:=T) _ h _ ?_ w hs;rw[QN,cp,map_eq_pure_bind,QN,nX l vs H];show G _=_
 congr 1
 match vs with
 | []=>rfl
 | [v]=>rfl
 | v :: u :: l=>simp[NY]
end
theorem nY(args:Array D)(k:Nat):env { tmps:=args++cB k undef,defers:=[] } = Hb args.toList 0:=by
 have key:∀(l:List D) (j t:Nat),Hb l j t=if j<=t then (l[t-j]?).getD undef else undef:=by
  intro l
  induction l with
  | nil=>intro j t;simp[Hb]
  | cons v l ih=>
   intro j t;simp only[Hb,upd];by_cases h:t=j
   .subst h;simp
   .rw[if_neg h,ih];by_cases h':j<=t
    .have e:t-j=(t-(j+1))+1:=nT;rw[if_pos nT,if_pos h',e];simp
    .rw[if_neg nT,if_neg h']
 funext t
 rw[key];simp only[env,Nat.zero_le,if_true,Nat.sub_zero,bC,Array.getElem?_append,ca];by_cases h:t<args.size
 .rw[if_pos h]
 .rw[if_neg h,b6 (by omega:args.size<=t)];by_cases h2:t-args.size<k
  .simp[h2]
  .simp[h2]
theorem Zd.HF{T:al}{f:FuncId}{fn:Func}{c:Code}{l:List ResultVar}{args:Array D}(hf:P.funcs[f]? = G fn)(hb:fn.body=G c)(hl:fn.results=l.toArray)(hn:cS args.size fn.ntmps=true)(H:VS P fn.ntmps T c (fun F h'=>Gj P l F Q h') (fun _ _ _=>False) (fun F h'=>Gj P l F Q h') (Hb args.toList 0) h):
  Zd P T f args h Q:=by
 intro w hs;refine calls_of_wp hf hb (Code.wp_mono (fun e a w hp=>?_) (H _ w ?_ rfl (nY _ _) hs))
 .obtain⟨q1,q2,h',q3,q4⟩:=hp;have key:Gj P l (env a) Q h'->∃v,(results fn a.tmps).run P w=.ok v w/\∃v' Kg,Ending.returned v=.returned v'/\Sz T w Kg/\Q v' Kg:=by
   intro hr;unfold Gj at hr;split at hr
   .rename_i vs hvs;exact⟨_,AH hl hvs q3,_,h',rfl,q3,hr⟩
   .exact hr.elim
  cases e with
  | normal=>exact⟨q2,key q4⟩
  | ret=>exact⟨q2,key q4⟩
  | _=>exact q4.elim
 .have:=Nat.le_of_ble_eq_true hn;simp only[Array.size_append,Array.size_replicate];omega
set_option linter.all false
def tz(P:aa)(t:O):Option (List D):=((P.info? t).bind (·.zero)).map fun v=>v.cells.toList
def tn(P:aa)(t:O):Option Nat:=(P.info? t).map (·.size)
def tb(P:aa)(t:O):Option Nat:=(P.info? t).map (·.bytes)
def ta(P:aa)(t:O):Option Bool:=(P.underlying t).map fun|.struct _=>true|.array _ _=>true|_=>false
def tf(P:aa)(t:O)(i:Nat):Option Nat:=
 match P.underlying t with
 | some (.struct fs)=>(fs[i]?).bind fun f=>match tn P f.type with
  | some (_+1)=>G f.offset
  | _=>U
 | _=>U
def Xn(P:aa)(t:O):Option (Nat × O):=match P.underlying t with|some (.array n e)=>G (n,e)|_=>U
def QP(P:aa)(t:O):Option O:=match P.underlying t with|some (.slice e)=>G e|_=>U
def Ny(P:aa)(t:O):Option (List (Nat × Nat)):=match P.underlying t with|some (.struct fs)=>fs.toList.mapM (fun f=>(tn P f.type).map fun n=>(f.offset,n))|_=>U
def tfl(P:aa)(t:O)(i:Nat):Option (Nat × O):=match P.underlying t with|some (.struct fs)=>(fs[i]?).map fun f=>(f.offset,f.type)|_=>U
def Vf(P:aa)(t:O):Bool:=match P.underlying t with|some .string=>true|_=>false
def Ex(P:aa)(t:O):Option IntKind:=match P.underlying t with|some (.int k)=>G k|_=>U
def goes(P:aa)(f:FuncId):Bool:=match P.funcs[f]? with|some fn=>!(fn.name == "runtime.NumGoroutine")&&fn.body.isSome|none=>false
def cl:D->List D
 | aw cs=>cs.toList
 | v=>[v]
theorem MO(v:D):(cl v).toArray=v.cells:=by cases v<;>rfl
section
variable (P:aa) (T:al)
def Dj(c a b:D)(K:D->Hp->Prop)(h:Hp):Prop:=
 match c with|ab t=>K (if t then a else b) h|_=>False
def uP(z:Option (List D))(t:O)(K:D->Hp->Prop)(h:Hp):Prop:=
 match z with|some l=>K (J (G ⟨h.size,0,U⟩)) (h.push (Y l.toArray t))|none=>False
def rd(h:Hp)(a:Addr)(n:Nat):Option (List D):=
 match h[a.block]? with
 | some (Y c _ _)=>if a.spot=U/\a.off+n<=c.size then G ((c.toList.drop a.off).take n) else U
 | _=>U
def Hc(x:Option D)(K:D->Hp->Prop)(h:Hp):Prop:=match x with|some v=>K v h|none=>False
def Gk(x:Option (List D))(K:D->Hp->Prop)(h:Hp):Prop:=match x with|some l=>K (aw l.toArray) h|none=>False
def MP(s:Option Bool)(n:Option Nat)(p:D)(K:D->Hp->Prop)(h:Hp):Prop:=
 match p with
 | J (G a)=>match s,n with
  | some false,_=>Hc (hc h a) K h
  | some true,G n=>Gk (rd h a n) K h
  | _,_=>False
 | _=>False
def Y8:List D->Nat->List D->List D
 | l,_,[]=>l
 | [],_,_ :: _=>[]
 | _ :: l,0,v :: vs=>v :: Y8 l 0 vs
 | x :: l,n+1,v :: vs=>x :: Y8 l n (v :: vs)
def wr(h:Hp)(a:Addr)(vs:List D):Option Hp:=
 match h[a.block]? with
 | some (Y c e (lo,hi))=>if a.spot=U/\a.off+(M vs)<=c.size/\hi<=lo/\vs.all YD=true then G (h.setIfInBounds a.block (Y (Y8 c.toList a.off vs).toArray e (lo,hi))) else U
 | _=>U
def QQ(h:Hp)(a:Addr)(v:D):Option Hp:=
 match h[a.block]? with
 | some (Y c e (lo,hi))=>if a.spot=U/\a.off<c.size/\hi<=lo/\YD v=true then G (h.setIfInBounds a.block (Y (c.setIfInBounds a.off v) e (lo,hi))) else U
 | _=>U
def lj(x:Option Hp)(K:D->Hp->Prop):Prop:=match x with|some h'=>K undef h'|none=>False
def VA(n:Option Nat)(p v:D)(K:D->Hp->Prop)(h:Hp):Prop:=
 match p,n with
 | J (G a),G n=>
  if n=(cl v).length then
   match v with
   | aw cs=>lj (wr h a cs.toList) K
   | v=>lj (QQ h a v) K
  else False
 | _,_=>False
def NZ(f:Option Nat)(p:D)(K:D->Hp->Prop)(h:Hp):Prop:=
 match f,p with
 | some o,J (G a)=>K (J (G (a.add o))) h
 | _,_=>False
def XS(op:BinOp)(t:O)(x y:a4)(a b:D)(K:D->Hp->Prop)(h:Hp):Prop:=
 hw P (do eqGuard op t x y a b;binOp op t a b) K h
def vUn(op:UnOp)(a:D)(K:D->Hp->Prop)(h:Hp):Prop:=hw P (Op.unary op a) K h
def MQ(src dst:O)(a:D)(K:D->Hp->Prop)(h:Hp):Prop:=hw P (convert src dst a) K h
def vIx(arr:Option (Nat × O))(sl:Option O)(n:O->Option Nat)(p i:D)(K:D->Hp->Prop)(h:Hp):Prop:=
 match i with
 | .int _ i=>(match arr,sl,p with
  | some (len,e),U,J (G a)=>(match n e with
   | some n=>if 0<=i/\i<(len:Int) then K (J (G (a.add (i.toNat*n)))) h else False
   | none=>False)
  | none,G e,Z (G a) len _=>(match n e with
   | some n=>if 0<=i/\i<(len:Int) then K (J (G (a.add (i.toNat*n)))) h else False
   | none=>False)
  | _,_,_=>False)
 | _=>False
def Vg(v:D)(i:Nat)(K:D->Hp->Prop)(h:Hp):Prop:=
 match v with|.tuple vs=>Hc (vs[i]?) K h|_=>False
def fO(v:D)(K:D->Hp->Prop)(h:Hp):Prop:=
 match v with|J (G a)=>K (J (G a)) h|.func (.func f) x y=>K (.func (.func f) x y) h|_=>False
def Gl(f:D)(args:List D)(K:D->Hp->Prop)(h:Hp):Prop:=
 match f with
 | .func (.func f) first captured=>if goes P f=true then Zd P T f (first.toList++args++captured.toList).toArray h K
  else hw P (callFunc f (first.toList++args++captured.toList).toArray) (Jt P T K) h
 | _=>False
def PY(b:Builtin)(ts:Array O)(ty:O)(cs:Array Bool)(args:List D)(K:D->Hp->Prop)(h:Hp):Prop:=
 hw P (builtin b ts ty cs args.toArray) (Jt P T K) h
def nZ(F:Env):List a4->List D
 | []=>[]
 | x :: l=>ev F x :: nZ F l
theorem Cy(F:Env)(l:List a4):nZ F l=l.map (ev F):=by induction l with|nil=>rfl|cons x l ih=>simp[nZ,ih]
def nth{α:Type}:List α->Nat->Option α
 | [],_=>U
 | x :: _,0=>G x
 | _ :: l,n+1=>nth l n
def MR(n:Nat)(i:Nat):Option (Nat × Nat):=G (i*n,n)
def Vh(place:Nat->Option (Nat × Nat)):List D->List (Nat × D)->Option (List D)
 | cs,[]=>G cs
 | cs,(i,v) :: l=>match place i with
  | some (o,s)=>if (cl v).length=s/\o+s<=(M cs) then Vh place (Y8 cs o (cl v)) l else U
  | none=>U
def fP(F:Env):List (Nat × a4)->List (Nat × D)
 | []=>[]
 | (i,x) :: l=>(i,ev F x) :: fP F l
def HG(n:Option Nat)(z:List D)(parts:List (Nat × D))(K:D->Hp->Prop)(h:Hp):Prop:=
 match n with|some n=>Gk (Vh (MR n) z parts) K h|none=>False
def N0(z:Option (List D))(pl:Option (List (Nat × Nat)))(arr:Option (Nat × O))(n:O->Option Nat)(parts:List (Nat × D))(K:D->Hp->Prop)(h:Hp):Prop:=
 match z,pl,arr with
 | some z,G pl,U=>Gk (Vh (nth pl) z parts) K h
 | some z,U,G (_,e)=>HG (n e) z parts K h
 | _,_,_=>False
def Qg:Nat->List D->List D
 | 0,_=>[]
 | n+1,z=>z++Qg n z
def fQ:Nat->List (Nat × D)->Option (List D)
 | _,[]=>G []
 | k,(i,v) :: l=>if i=k/\YD v=true then (fQ (k+1) l).map (v :: ·) else U
def ln(e:O)(len:Nat)(x:Option (List D))(K:D->Hp->Prop)(h:Hp):Prop:=
 match x with|some l=>K (Z (G ⟨h.size,0,U⟩) len len) (h.push (Y l.toArray e))|none=>False
def HH(n len:Nat)(z:List D)(parts:List (Nat × D)):Option (List D):=
 if n=1/\(M parts)=len then fQ 0 parts else Vh (MR n) (Qg len z) parts
def OR(e:O)(n:Option Nat)(z:Option (List D))(len:Nat)(parts:List (Nat × D))(K:D->Hp->Prop)(h:Hp):Prop:=
 match n,z with
 | some n,G z=>if (M z)=n/\len*n<=16777216 then ln e len (HH n len z parts) K h else False
 | _,_=>False
def MS(e:Option O)(n:O->Option Nat)(z:O->Option (List D))(len:Nat)(parts:List (Nat × D))(K:D->Hp->Prop)(h:Hp):Prop:=
 match e with
 | some e=>OR e (n e) (z e) len parts K h
 | none=>False
def In(a:Option Bool)(n:Option Nat)(cs:List D)(o:Nat)(K:D->Hp->Prop)(h:Hp):Prop:=
 match a,n with
 | some true,G n=>K (aw ((cs.drop o).take n).toArray) h
 | some false,_=>Hc (nth cs o) K h
 | _,_=>False
def uQ(f:Option (Nat × O))(a:O->Option Bool)(n:O->Option Nat)(x:D)(K:D->Hp->Prop)(h:Hp):Prop:=
 match f,x with
 | some (o,t),aw cs=>In (a t) (n t) cs.toList o K h
 | _,_=>False
def lq(m:Option Nat)(a:Option Bool)(len:Nat)(cs:List D)(i:Int)(K:D->Hp->Prop)(h:Hp):Prop:=
 match m with|some m=>if 0<=i/\i<(len:Int) then In a (G m) cs (i.toNat*m) K h else False|none=>False
def om(arr:Option (Nat × O))(str:Bool)(a:O->Option Bool)(n:O->Option Nat)(x i:D)(K:D->Hp->Prop)(h:Hp):Prop:=
 match i with
 | .int _ i=>(match arr,str,x with
  | some (len,e),false,aw cs=>lq (n e) (a e) len cs.toList i K h
  | none,true,.string s=>if 0<=i/\i<(s.size:Int) then K (.int .u8 ((s.data.toList.getD i.toNat 0).toNat:Nat)) h else False
  | _,_,_=>False)
 | _=>False
def sb(x:Option D)(d y:Nat):Option Nat:=
 match x with
 | none=>G d
 | some (.int _ i)=>if 0<=i/\i<=(y:Int) then G i.toNat else U
 | _=>U
def lu(F:Env):Option a4->Option D
 | none=>U
 | some x=>G (ev F x)
def Py(n:Option Nat)(a:Option Addr)(len cap:Nat)(lo hi:Option D)(K:D->Hp->Prop)(h:Hp):Prop:=
 match n,sb hi len cap with
 | some n,G b=>(match sb lo 0 b with
  | some l=>K (Z (if cap=l then a else a.map (·.add (l*n))) (b-l) (cap-l)) h
  | none=>False)
 | _,_=>False
def Ey(arr:Option (Nat × O))(sl:Option O)(str:Bool)(n:O->Option Nat)(x:D)(lo hi mx:Option D)(K:D->Hp->Prop)(h:Hp):Prop:=
 match mx,x,arr,sl,str with
 | some mv,Z a len cap,U,G e,_=>(match hi,sb (G mv) 0 cap with
  | some hv,G m=>Py (n e) a len m lo (G hv) K h
  | _,_=>False)
 | none,Z a len cap,U,G e,_=>Py (n e) a len cap lo hi K h
 | none,J (G a),G (len,e),U,_=>Py (n e) (G a) len len lo hi K h
 | none,.string s,U,U,true=>(match sb hi s.size s.size with
  | some b=>(match sb lo 0 b with|some l=>K (.string (s.extract l b)) h|none=>False)
  | none=>False)
 | _,_,_,_,_=>False
def Zb2(e:O)(n:Option Nat)(by':Option Nat)(z:Option (List D))(l c:Int)(K:D->Hp->Prop)(h:Hp):Prop:=
 match n,by',z with
 | some n,G bytes,G z=>if (M z)=n/\0<=l/\l<=c/\c<=9223372036854775807/\(bytes:Int)*c<=281474976710656 then K (Z (G ⟨h.size,0,U⟩) l.toNat c.toNat) (h.push (Y (Qg c.toNat z).toArray e)) else False
 | _,_,_=>False
def vMk(e:Option O)(n by':O->Option Nat)(z:O->Option (List D))(l c:D)(K:D->Hp->Prop)(h:Hp):Prop:=
 match e,l,c with
 | some e,.int _ l,.int _ c=>Zb2 e (n e) (by' e) (z e) l c K h
 | _,_,_=>False
def Sb(op:Op)(ty:O)(K:D->Hp->Prop)(F:Env)(h:Hp):Prop:=
 match op with
 | .move x|.assign x=>K (ev F x) h
 | .pick c a b=>Dj (ev F c) (ev F a) (ev F b) K h
 | .alloc e=>uP (tz P e) e K h
 | .box e x=>uP (G (cl (ev F x))) e K h
 | .load t a=>MP (ta P t) (tn P t) (ev F a) K h
 | .store t a x=>VA (tn P t) (ev F a) (ev F x) K h
 | .fieldAddr t x i=>NZ (tf P t i) (ev F x) K h
 | .indexAddr t x i=>vIx (Xn P t) (QP P t) (tn P) (ev F x) (ev F i) K h
 | .nilCheck x=>fO (ev F x) K h
 | .binOp op t x y _=>XS P op t x y (ev F x) (ev F y) K h
 | .unOp op _ x=>vUn P op (ev F x) K h
 | .convert s d x=>MQ P s d (ev F x) K h
 | .extract x i=>Vg (ev F x) i K h
 | .makeFunc fn first captured=>K (.func fn (nZ F first.toList).toArray (nZ F captured.toList).toArray) h
 | .call ⟨.value f,args,_⟩=>Gl P T (ev F f) (nZ F args.toList) K h
 | .call ⟨.builtin b,args,ts⟩=>PY P T b ts ty (args.map fun|.const _=>true|_=>false) (nZ F args.toList) K h
 | .build t parts=>N0 (tz P t) (Ny P t) (Xn P t) (tn P) (fP F parts.toList) K h
 | .buildSlice t len parts=>MS (QP P t) (tn P) (tz P) len (fP F parts.toList) K h
 | .field t x i=>uQ (tfl P t i) (ta P) (tn P) (ev F x) K h
 | .index t x i=>om (Xn P t) (Vf P t) (ta P) (tn P) (ev F x) (ev F i) K h
 | .slice t x lo hi mx=>Ey (Xn P t) (QP P t) (Vf P t) (tn P) (ev F x) (lu F lo) (lu F hi) (lu F mx) K h
 | .makeSlice t l c=>vMk (QP P t) (tn P) (tb P) (tz P) (ev F l) (ev F c) K h
 | op=>Ew P T ⟨U,op,ty, "", #[],U⟩ K F h
end
section
variable {P:aa} {T:al} {K:D->Hp->Prop} {F:Env} {h:Hp} {ty:O}
theorem fR{Q:aa->Hp->Prop}:hw P program Q h=Q P h:=rfl
theorem ZL{Q:α->Hp->Prop}(a:α):hw P (pure a) Q h=Q a h:=rfl
theorem X1{d:TypeInfo}(hd:P.info? t=G d){Q:TypeInfo->Hp->Prop}:hw P (typeInfo t) Q h=Q d h:=by
 simp only[typeInfo];rw[Zk];simp only[program,hw];rw[hd];rfl
theorem ZH{d:TypeDesc}(hd:P.underlying t=G d){Q:TypeDesc->Hp->Prop}:hw P (underlying t) Q h=Q d h:=by
 simp only[underlying];rw[Zk];simp only[program,hw];rw[hd];rfl
theorem run_sizeOf(hn:tn P t=G n){Q:Nat->Hp->Prop}:hw P (sizeOf t) Q h=Q n h:=by
 unfold tn at hn
 cases hi:P.info? t with
 | none=>rw[hi]at hn;cases hn
 | some i=>
  rw[hi]at hn;simp only[aU,Option.some.injEq]at hn;subst hn;unfold sizeOf;rw[Zk,X1 hi];rfl
theorem Tc{b:Bool}(hb:ta P t=G b){Q:Bool->Hp->Prop}:hw P (isAgg t) Q h=Q b h:=by
 unfold ta at hb
 cases hi:P.underlying t with
 | none=>rw[hi]at hb;cases hb
 | some d=>
  rw[hi]at hb;simp only[aU,Option.some.injEq]at hb;subst hb;unfold isAgg;rw[Zk,ZH hi]
  cases d<;>rfl
theorem XL(b o n:Nat):Addr.add ⟨b,o,U⟩ n=⟨b,o+n,U⟩:=by
 unfold Addr.add;split
 .rename_i h;subst h;rfl
 .rfl
theorem OS(a:Addr)(n:Nat)(ha:a.spot=U):a.add n=⟨a.block,a.off+n,U⟩:=by
 obtain⟨b,o,s⟩:=a;simp only at ha;subst ha;exact XL b o n
theorem run_loadCells(a:Addr)(c:List D){Q:Array D->Hp->Prop}:∀(n i:Nat) (acc:Array D),
  (∀j,j<n->hc h (a.add (i+j))=G (c.getD j undef))->n=(M c)->Q (acc++c.toArray) h->hw P (loadCellsFrom a i n acc) Q h:=by
 induction c with
 | nil=>intro n i acc _ hn H;subst hn;simpa [loadCellsFrom,pure,hw] using H
 | cons v c ih=>
  intro n i acc hj hn H;subst hn;show hw P (load (a.add i) >>= fun v=>loadCellsFrom a (i+1) (M c) (acc.push v)) Q h;rw[Zk];refine⟨v,by simpa using hj 0 uK,?_⟩;refine ih _ (i+1) _ (fun j fS=>?_) rfl ?_
  .have:=hj (j+1) Ig;have e:i+(j+1)=i+1+j:=nT;rw[e]at this
   simpa using this
  .simpa using H
theorem fU(H:MP (ta P t) (tn P t) v K h):hw P (Instr.loadAt t v) K h:=by
 unfold MP at H;split at H
 .rename_i a;unfold Instr.loadAt;rw[Zk];show hw P (loadVar t a) K h;unfold loadVar;rw[Zk];split at H
  .rename_i hs;rw[Tc hs];unfold Hc at H;split at H
   .rename_i v hv;exact⟨v,hv,H⟩
   .exact H.elim
  .rename_i n hs hn;rw[Tc hs];simp only[if_true];rw[Zk,run_sizeOf hn,Zk];unfold Gk at H;split at H
   .rename_i l hl;unfold rd at hl;split at hl
    .rename_i c e fr hb;split at hl
     .rename_i MT;obtain⟨h1,h2⟩:=MT;simp only[Option.some.injEq]at hl;subst hl;have hlen:((c.toList.drop a.off).take n).length=n:=Ig;refine run_loadCells a _ n 0 #[] (fun j hj=>?_) hlen.symm (by simpa [ZL] using H);rw[OS a _ h1];unfold hc;rw[hb];simp only[bP,a2,if_false];rw[bQ,List.getElem?_take,if_pos hj,List.getElem?_drop];have e:a.off+(0+j)=a.off+j:=nT;rw[e];simp;rw[be nT];rfl
     .cases hl
    .cases hl
   .exact H.elim
  .exact H.elim
 .exact H.elim
theorem run_store{Q:Unit->Hp->Prop}:hw P (store a v) Q h=(YD v=true/\(∃u,hc h a=G u)/\uL h a=false/\Q () (nU h a v)):=rfl
theorem Zb3{c:Array D}{fr:Nat × Nat}(hb:h[a.block]? = G (Y c e fr))(hs:a.spot=U)(v:D):
  nU h a v=h.setIfInBounds a.block (Y (c.setIfInBounds a.off v) e fr):=by
 obtain⟨ZS,fV⟩:=a3.1 hb;unfold nU;apply ba;intro i;rw[Array.getElem?_modify,ao];by_cases hi:a.block=i
 .subst hi;simp[fV,hs,ZS]
 .simp[hi]
theorem S6(l:List D)(n:Nat)(v:D)(vs:List D):Y8 l n (v :: vs)=Y8 (l.set n v) (n+1) vs:=by
 induction l generalizing n with
 | nil=>cases vs<;>simp[Y8]
 | cons x l ih=>
  cases n with
  | zero=>
   simp only[Y8,ck]
   cases vs with
   | nil=>simp[Y8]
   | cons u us=>simp[Y8]
  | succ n=>
   simp only[Y8,cn];rw[ih]
   cases vs with
   | nil=>simp[Y8]
   | cons u us=>simp[Y8]
theorem YV{lo hi:Nat}{Q:Unit->Hp->Prop}(hs:a.spot=U)(ZqL:hi<=lo):∀(vs:List D) (i:Nat) (h:Hp) (c:Array D),
  h[a.block]? = G (Y c e (lo,hi))->a.off+i+(M vs)<=c.size->vs.all YD=true ->
  Q () (h.setIfInBounds a.block (Y (Y8 c.toList (a.off+i) vs).toArray e (lo,hi)))->hw P (storeCells a vs i) Q h
 | [],i,h,c,hb,_,_,H=>by
  have e:h.setIfInBounds a.block (Y (Y8 c.toList (a.off+i) []).toArray e (lo,hi))=h:=by
   have ZS:=(a3.1 hb).1;apply ba;intro j;rw[ao];by_cases hj:a.block=j
   .subst hj;rw[if_pos rfl,if_pos ZS,hb];simp[Y8]
   .simp[hj]
  rw[e]at H;exact H
 | v :: vs,i,h,c,hb,hlen,XW,H=>by
  simp only[bp,aq]at XW;simp only[bd]at hlen;show hw P (store (a.add i) v >>= fun _=>storeCells a vs (i+1)) Q h;rw[Zk,run_store,OS a i hs];have ZS:a.block<h.size:=(a3.1 hb).1;refine⟨XW.1,?_,?_,?_⟩
  .unfold hc;simp only[hb];refine⟨c[a.off+i]'nT,?_⟩;simp only[bP,a2,if_false];rw[be nT]
  .unfold uL;simp only[hb];simp;omega
  .have J9:h[({ block:=a.block,off:=a.off+i,spot:=U }:Addr).block]? = G (Y c e (lo,hi)):=hb;rw[Zb3 J9 rfl];have HI:(h.setIfInBounds a.block (Y (c.setIfInBounds (a.off+i) v) e (lo,hi)))[a.block]? = G (Y (c.setIfInBounds (a.off+i) v) e (lo,hi)):=by
    simp[ZS]
   refine YV hs ZqL vs (i+1) _ _ HI Ig XW.2 ?_;have e2:(h.setIfInBounds a.block (Y (c.setIfInBounds (a.off+i) v) e (lo,hi))).setIfInBounds a.block
     (Y (Y8 (c.setIfInBounds (a.off+i) v).toList (a.off+(i+1)) vs).toArray e (lo,hi)) =
     h.setIfInBounds a.block (Y (Y8 c.toList (a.off+i) (v :: vs)).toArray e (lo,hi)):=by
    rw[S6,bb];rw[Array.setIfInBounds_setIfInBounds,cj]
   rw[e2];exact H
theorem AI{p:D}(H:VA (tn P t) p v K h):hw P (Instr.storeAt t p v) (fun _ h=>K undef h) h:=by
 unfold VA at H;split at H
 .rename_i a n hn;unfold Instr.storeAt;rw[Zk];show hw P (storeVar t a v) _ h;unfold storeVar;split at H
  .rename_i hlen;have hsz:v.cells.size=n:=by rw[<-MO,hlen];simp
   rw[Zk,run_sizeOf hn];simp only[hsz,ne_eq,not_true_eq_false,if_false];show hw P (storeCells a v.cells.toList) _ h;split at H
   .rename_i cs;unfold lj at H;split at H
    .rename_i h' hh;unfold wr at hh;split at hh
     .rename_i c e lo hi hb;split at hh
      .rename_i ZfY;obtain⟨h1,h2,h3,h4⟩:=ZfY;simp only[Option.some.injEq]at hh;subst hh;exact YV h1 h3 cs.toList 0 h c hb h2 h4 H
      .cases hh
     .cases hh
    .exact H.elim
   .rename_i hna;have ZfZ:v.cells.toList=[v]:=by cases v<;>first|rfl|exact (hna _ rfl).elim
    rw[ZfZ];unfold lj at H;split at H
    .rename_i h' hh;unfold QQ at hh;split at hh
     .rename_i c e lo hi hb;split at hh
      .rename_i ZfY;obtain⟨h1,h2,h3,h4⟩:=ZfY;simp only[Option.some.injEq]at hh;subst hh;refine YV h1 h3 [v] 0 h c hb Ig (by simpa using h4) ?_;have e1:(Y8 c.toList (a.off+0) [v]).toArray=c.setIfInBounds a.off v:=by
        rw[S6,cq];apply b3.1;rw[bb]
        cases h9:(c.toList.set a.off v)<;>simp[Y8]
       rw[e1];exact H
      .cases hh
     .cases hh
    .exact H.elim
  .exact H.elim
 .exact H.elim
theorem AJ{p:D}(H:NZ (tf P t i) p K h):hw P (Instr.fieldAt t p i) K h:=by
 unfold NZ at H;split at H
 .rename_i o a hf;unfold tf at hf;split at hf
  .rename_i fs hu;unfold Instr.fieldAt;rw[Zk,ZH hu]
   cases AK:fs[i]? with
   | none=>rw[AK]at hf;cases hf
   | some f=>
    rw[AK]at hf;simp only[am]at hf;split at hf
    .rename_i m hm;simp only[Option.some.injEq]at hf;subst hf;simp only[AK];simp only[Instr.sureAddr,fieldPlace,Zk,ZL,run_sizeOf hm,if_neg (Nat.succ_ne_zero m)];exact H
    .cases hf
  .cases hf
 .exact H.elim
theorem uR{p i:D}(H:vIx (Xn P t) (QP P t) (tn P) p i K h):hw P (Instr.indexAt t p i) K h:=by
 unfold vIx at H;split at H
 .rename_i k i;split at H
  .rename_i len e a ha hs;split at H
   .rename_i n hn;unfold Xn at ha;split at ha
    .rename_i m e' hu;simp only[Option.some.injEq,Prod.mk.injEq]at ha;obtain⟨rfl,rfl⟩:=ha;split at H
     .rename_i hb;simp only[Instr.indexAt,asIntOf,Instr.sureAddr,Zk,ZL,ZH hu,if_pos hb,run_sizeOf hn];exact H
     .exact H.elim
    .cases ha
   .exact H.elim
  .rename_i e a len cap ha hs;split at H
   .rename_i n hn;unfold QP at hs;split at hs
    .rename_i e' hu;simp only[Option.some.injEq]at hs;subst hs;split at H
     .rename_i hb;simp only[Instr.indexAt,asIntOf,Instr.sureAddr,Zk,ZL,ZH hu,if_pos hb,run_sizeOf hn];exact H
     .exact H.elim
    .cases hs
   .exact H.elim
  .exact H.elim
 .exact H.elim
theorem Ez(H:Vg v i K h):hw P (Instr.extract v i) K h:=by
 unfold Vg at H;split at H
 .rename_i vs;unfold Hc at H;split at H
  .rename_i v hv;simp only[Instr.extract,hv];exact H
  .exact H.elim
 .exact H.elim
theorem fW{f:D}{c:Call}{args:List D}(hc:c.callee=.value x)(hf:ev F x=f)(ha:(c.args.map (ev F)).toList=args)(H:Gl P T f args K h):
  hw P (do let d <-resolve (ev F) c ty;invoke d.target d.args) (Jt P T K) h:=by
 unfold Gl at H;split at H
 .rename_i f first captured;have e:first++c.args.map (ev F)++captured=(first.toList++args++captured.toList).toArray:=by rw[<-ha];simp
  by_cases hg:goes P f=true
  case neg=>
   rw[if_neg hg]at H;simp only[resolve,hc,hf,Deferred.ofValue,Zk,ZL,invoke];rw[e];exact H
  rw[if_pos hg]at H;unfold goes at hg;split at hg
  .rename_i fn hfn;simp only[aq,Bool.not_eq_true']at hg;have ZjS:fn.body.isNone=false:=by
    cases hb:fn.body with
    | none=>rw[hb]at hg;simp at hg
    | some _=>rfl
   simp only[resolve,hc,hf,Deferred.ofValue,Zk,ZL,invoke,callFunc,fR,hfn,hg.1,a2,if_false,ZjS];rw[e];exact H
  .cases hg
 .exact H.elim
theorem HJ{z:List D}(hz:tz P t=G z):∃v,v.cells=z.toArray/\∀{Q:D->Hp->Prop} {h:Hp},hw P (zeroValue t) Q h=Q v h:=by
 unfold tz at hz
 cases hi:P.info? t with
 | none=>rw[hi]at hz;cases hz
 | some i=>
  rw[hi]at hz
  cases HK:i.zero with
  | none=>rw[am,HK]at hz;cases hz
  | some v=>
   rw[am,HK]at hz;simp only[aU,Option.some.injEq]at hz;refine⟨v,by rw[<-hz,cf],fun {Q h}=>?_⟩;unfold zeroValue;rw[Zk,X1 hi];simp only[HK];rfl
theorem Dk(off:Nat):∀(vs:List D) (k:Nat) (cells:Array D),
  ((vs.zipIdx k).foldl (fun (cs:Array D) (x:D × Nat)=>cs.setIfInBounds (off+x.2) x.1) cells).toList=Y8 cells.toList (off+k) vs
 | [],k,cells=>by cases h:cells.toList<;>simp[Y8,h]
 | v :: vs,k,cells=>by
  rw[List.zipIdx_cons,List.foldl_cons,Dk off vs (k+1),S6,bb,cj]
theorem HL:∀(parts:List (Nat × D)) (cs:List D) (uS:List D),Vh place cs parts=G uS->Instr.fill place cs.toArray parts=G uS.toArray
 | [],cs,uS,h=>by simp only[Vh,Option.some.injEq]at h;subst h;rfl
 | (i,v) :: l,cs,uS,h=>by
  unfold Vh at h;unfold Instr.fill
  cases hp:place i with
  | none=>rw[hp]at h;cases h
  | some os=>
   obtain⟨o,s⟩:=os;rw[hp]at h;simp only at h ⊢;split at h
   .rename_i hc;have hsz:v.cells.size=s:=by rw[<-MO];simpa using hc.1
    have MT:¬((decide (v.cells.size≠s)||decide (o+v.cells.size>cs.toArray.size))=true):=by
     rw[hsz];simp;omega
    rw[if_neg MT];have e:(v.cells.zipIdx.foldl (fun (cs:Array D) (x:D × Nat)=>cs.setIfInBounds (o+x.2) x.1) cs.toArray)=(Y8 cs o (cl v)).toArray:=by
     apply b3.1;have:=Dk o (cl v) 0 cs.toArray;rw[<-MO,cT,<-Array.foldl_toList];have e3:(cl v).mapIdx (fun i a=>(a,i))=(cl v).zipIdx 0:=by
      apply List.ext_getElem?;intro i;simp[List.getElem?_zipIdx]
     simpa [cT,e3] using this
    have key:=HL l _ _ h;rw[<-e]at key;exact key
   .cases h
theorem YW(l:List α)(n:Nat):nth l n=l[n]?:=by
 induction l generalizing n with
 | nil=>simp[nth]
 | cons x l ih=>cases n<;>simp[nth,ih]
theorem lw(F:Env)(l:List (Nat × a4)):fP F l=l.map fun x=>(x.1,ev F x.2):=by
 induction l with
 | nil=>rfl
 | cons x l ih=>obtain⟨i,x⟩:=x;simp[fP,ih]
theorem run_places:∀(l:List Field) (Q:List (Nat × Nat)->Hp->Prop) (pl:List (Nat × Nat)),l.mapM (fun f:Field=>(tn P f.type).map fun n=>(f.offset,n))=G pl ->
  Q pl h->hw P (l.mapM fun f:Field=>do pure (f.offset,<-sizeOf f.type)) Q h
 | [],Q,pl,hp,H=>by
  simp only[cN,pure,Option.some.injEq]at hp;subst hp;exact H
 | f :: l,Q,pl,hp,H=>by
  rw[bG]at hp
  cases hn:tn P f.type with
  | none=>rw[hn]at hp;cases hp
  | some n=>
   rw[hn]at hp
   cases hl:l.mapM (fun f:Field=>(tn P f.type).map fun n=>(f.offset,n)) with
   | none=>simp[hl]at hp
   | some pl'=>
    simp[hl]at hp;subst hp;rw[bG,Zk,Zk,run_sizeOf hn];show hw P (_ >>= _) Q h;rw[Zk];exact run_places l _ pl' hl H
theorem AL{parts:Array (Nat × a4)}(H:N0 (tz P t) (Ny P t) (Xn P t) (tn P) (fP F parts.toList) K h):hw P (Instr.build t (parts.map fun (i,x)=>(i,ev F x))) K h:=by
 have e1:(parts.map fun (i,x)=>(i,ev F x)).toList=fP F parts.toList:=by rw[lw,bn]
 unfold Instr.build;rw[e1];unfold N0 at H;split at H
 .rename_i z pl hz MG _;obtain⟨v,hv,Zf0⟩:=HJ hz;rw[Zk,Zf0,Zk,hv];unfold Ny at MG;split at MG
  .rename_i fs hu;rw[ZH hu];simp only;rw[Zk,<-cf (xs:=fs),cp,map_eq_pure_bind,Zk];refine run_places fs.toList _ pl MG ?_;unfold Gk at H;split at H
   .rename_i cs XI;have e2:(fun i=>pl.toArray[i]?)=nth pl:=by funext i;rw[YW];simp
    have:=HL _ _ _ XI;rw[<-e2]at this;simp only[ZL,this];exact H
   .exact H.elim
  .cases MG
 .rename_i z n e hz _ ha;obtain⟨v,hv,Zf0⟩:=HJ hz;rw[Zk,Zf0,Zk,hv];unfold Xn at ha;split at ha
  .rename_i n' e' hu;simp only[Option.some.injEq,Prod.mk.injEq]at ha;obtain⟨rfl,rfl⟩:=ha;rw[ZH hu];simp only;unfold HG at H;split at H
   .rename_i m hm;rw[Zk,run_sizeOf hm];unfold Gk at H;split at H
    .rename_i cs XI;have:=HL _ _ _ XI;have e2:(fun i=>G (i*m,m))=MR m:=rfl;rw[e2];simp only[this];exact H
    .exact H.elim
   .exact H.elim
  .cases ha
 .exact H.elim
theorem lF(z:List D)(hz:z≠[]):∀(len:Nat),(bS (len*(M z))).map (fun j=>z.toArray[j%z.toArray.size]!)=(Qg len z).toArray:=by
 have Gm:0<(M z):=bx.2 hz;have hlen:∀len,(Qg len z).length=len*(M z):=by
  intro len
  induction len with
  | zero=>simp[Qg]
  | succ n ih=>simp[Qg,ih,bh,cr]
 have fV:∀len j,j<len*(M z)->(Qg len z)[j]? = z[j%(M z)]?:=by
  intro len
  induction len with
  | zero=>intro j hj;simp at hj
  | succ n ih=>
   intro j hj;simp only[Qg];by_cases fS:j<(M z)
   .rw[bR fS,a7 fS]
   .rw[List.getElem?_append_right nT,ih (j-(M z)) (by rw[bh]at hj;omega)];rw[Nat.mod_eq_sub_mod (by omega:j ≥ (M z))]
 intro len;apply ba;intro j;by_cases hj:j<len*(M z)
 .have ZqM:j%(M z)<(M z):=Nat.mod_lt _ Gm;simp[hj,fV len j hj,ZqM]
 .have h2:(Qg len z)[j]? = U:=List.getElem?_eq_none (by rw[hlen];omega);simp[hj,h2]
theorem Oa(z:List D):∀n,(Qg n z).length=n*(M z):=by
 intro len
 induction len with
 | zero=>simp[Qg]
 | succ n ih=>simp[Qg,ih,bh,cr]
theorem Dl:∀(parts:List (Nat × D)) (pre vs rest:List D),fQ (M pre) parts=G vs->(M rest)=(M parts)->Vh (MR 1) (pre++rest) parts=G (pre++vs)
 | [],pre,vs,rest,h,hl=>by
  simp only[fQ,Option.some.injEq]at h;subst h;have:rest=[]:=a0 (by simpa using hl);simp[Vh,this]
 | (i,v) :: l,pre,vs,rest,h,hl=>by
  unfold fQ at h;split at h
  .rename_i hc;obtain⟨rfl,hv⟩:=hc
   cases hs:fQ ((M pre)+1) l with
   | none=>rw[hs]at h;cases h
   | some us=>
    rw[hs]at h;simp only[aU,Option.some.injEq]at h;subst h
    cases rest with
    | nil=>simp at hl
    | cons r rest=>
     have JS:cl v=[v]:=by cases v<;>first|rfl|(simp[YD]at hv)
     have e1:Y8 (pre++r :: rest) (M pre) [v]=(pre++[v])++rest:=by
      rw[S6];simp[Y8]
     have ih:=Dl l (pre++[v]) us rest (by simpa using hs) (by simpa using hl);simp only[Vh,MR,JS,Nat.mul_one,bd,cF,bg];rw[if_pos uK,e1,ih];simp
  .cases h
theorem EA{parts:Array (Nat × a4)}(H:MS (QP P t) (tn P) (tz P) len (fP F parts.toList) K h):hw P (Instr.buildSlice t len (parts.map fun (i,x)=>(i,ev F x))) K h:=by
 have e1:(parts.map fun (i,x)=>(i,ev F x)).toList=fP F parts.toList:=by rw[lw,bn]
 unfold Instr.buildSlice;rw[e1];unfold MS at H;split at H
 .rename_i e he;unfold QP at he;split at he
  .rename_i e' hu;simp only[Option.some.injEq]at he;subst he;unfold OR at H;split at H
   .rename_i n z hn hz;split at H
    .rename_i hc;obtain⟨fv,hle⟩:=hc;unfold ln at H;split at H
     .rename_i l hl;have ZjT:Vh (MR n) (Qg len z) (fP F parts.toList)=G l:=by
       unfold HH at hl;split at hl
       .rename_i hc;obtain⟨rfl,MG⟩:=hc;have:=Dl (fP F parts.toList) [] l (Qg len z) hl (by rw[Oa,fv,MG,Nat.mul_one])
        simpa using this
       .exact hl
      rw[Zk,ZH hu];simp only;rw[Zk,run_sizeOf hn,if_neg nT];have fin:∀z':Array D,(bS (len*n)).map (fun j=>z'[j%z'.size]!)=(Qg len z).toArray->hw P (match Instr.fill (fun i=>G (i*n,n)) ((bS (len*n)).map (fun j=>z'[j%z'.size]!)) (fP F parts.toList) with
        | some cells=>do
         let a <-newRow e' cells
         pure (Value.slice (G a) len len)
        | x=>stuck "buildSlice: a part of the wrong size") K h:=by
       intro z' Cz;have:=HL _ _ _ ZjT;have e2:(fun i=>G (i*n,n))=MR n:=rfl;rw[e2,Cz];simp only[this];exact H
      split
      .rename_i h0;refine fin #[] ?_;have:(Qg len z).length=0:=by rw[Oa,fv,h0]
       rw[a0 this,h0];simp
      .rename_i h0;obtain⟨v,hv,hr⟩:=HJ hz;rw[Zk,hr];refine fin v.cells ?_;have:z≠[]:=by intro e;subst e;simp at fv;subst fv;simp at h0
       rw[hv,<-fv];exact lF z this len
     .exact H.elim
    .exact H.elim
   .exact H.elim
  .cases he
 .exact H.elim
theorem Gn{cs:Array D}(H:In (ta P t) (tn P t) cs.toList o K h):hw P (part t cs o) K h:=by
 unfold In at H;unfold part;rw[Zk];split at H
 .rename_i n ha hn;rw[Tc ha,if_pos rfl,Zk,run_sizeOf hn];have e:(cs.extract o (o+n))=((cs.toList.drop o).take n).toArray:=by
   apply b3.1;simp[List.extract_eq_take_drop]
  rw[e];exact H
 .rename_i ha;rw[Tc ha,if_neg uK];unfold Hc at H;split at H
  .rename_i v hv;rw[YW]at hv;have:cs[o]? = G v:=by rw[<-ca];exact hv
   simp only[this];exact H
  .exact H.elim
 .exact H.elim
theorem oq{x:D}(H:uQ (tfl P t i) (ta P) (tn P) x K h):hw P (Instr.field t x i) K h:=by
 unfold uQ at H;split at H
 .rename_i o ft cs hf;unfold tfl at hf;split at hf
  .rename_i fs hu;unfold Instr.field;rw[Zk,ZH hu]
   cases AK:fs[i]? with
   | none=>rw[AK]at hf;cases hf
   | some f=>
    rw[AK]at hf;simp only[aU,Option.some.injEq,Prod.mk.injEq]at hf;obtain⟨rfl,rfl⟩:=hf;simp only[AK];exact Gn H
  .cases hf
 .exact H.elim
theorem ov{x i:D}(H:om (Xn P t) (Vf P t) (ta P) (tn P) x i K h):hw P (Instr.index t x i) K h:=by
 unfold om at H;split at H
 .rename_i k i;split at H
  .rename_i len e cs ha _;unfold Xn at ha;split at ha
   .rename_i n' e' hu;simp only[Option.some.injEq,Prod.mk.injEq]at ha;obtain⟨rfl,rfl⟩:=ha;unfold lq at H;split at H
    .rename_i m hm;split at H
     .rename_i hc;unfold Instr.index;simp only[asIntOf,Zk,ZL,ZH hu,if_pos hc,run_sizeOf hm];exact Gn (by rw[hm];exact H)
     .exact H.elim
    .exact H.elim
   .cases ha
  .rename_i s _ hs;unfold Vf at hs;split at hs
   .rename_i hu;split at H
    .rename_i hc;unfold Instr.index;have ZS:i.toNat<s.size:=nT;have e:s[i.toNat]? = G s[i.toNat]:=by exact getElem?_pos s i.toNat ZS
     have e2:s.data.toList.getD i.toNat 0=s[i.toNat]:=by
      have Hd:i.toNat<(M s.data.toList):=by simpa using ZS
      rw[bQ,a5 Hd,Option.getD_some];rfl
     simp only[asIntOf,Zk,ZL,ZH hu,if_pos hc.1,e];rw[e2]at H;exact H
    .exact H.elim
   .cases hs
  .exact H.elim
 .exact H.elim
theorem Gp{x:Option D}{y:Nat}{c:BoundsCode}(hx:x=G v)(hs:sb x 0 y=G n){Q:Nat->Hp->Prop}:hw P (Instr.sliceBound v y c) Q h=Q n h:=by
 subst hx;unfold sb at hs;split at hs
 .rename_i he;cases he
 .rename_i k i he;simp only[Option.some.injEq]at he;subst he;split at hs
  .rename_i hc;simp only[Option.some.injEq]at hs;subst hs;unfold Instr.sliceBound;simp only[asIntOf,Zk,ZL,if_pos hc]
  .cases hs
 .cases hs
theorem N9{isS:Bool}{l:Nat}{hi:Option D}(hb:sb hi len cap=G b)(hl:sb lo 0 b=G l){Q:Nat × Nat × Nat->Hp->Prop}(H:Q (l,b,cap) h):hw P (Instr.sliceBounds isS len cap lo hi U) Q h:=by
 have h2:∀{c:BoundsCode},hw P (match lo with
   | some v=>do
    let l <-Instr.sliceBound v b c
    pure (l,b,cap)
   | none=>do
    let l <-pure 0
    pure (l,b,cap)) Q h:=by
  intro c
  cases lo with
  | none=>simp only[sb,Option.some.injEq]at hl;subst hl;exact H
  | some v=>
   simp only;rw[Zk,Gp rfl hl];exact H
 unfold Instr.sliceBounds;rw[Zk];show hw P (pure cap) _ h;rw[ZL]
 cases hi with
 | none=>
  simp only[sb,Option.some.injEq]at hb;subst hb;exact h2
 | some v=>
  have J9:sb (G v) 0 cap=G b:=by unfold sb at hb ⊢;cases v<;>simp at hb ⊢<;>exact hb
  simp only;rw[Zk,Gp rfl J9];exact h2
theorem AM{isS:Bool}{l:Nat}{hv mv:D}(hm:sb (G mv) 0 cap=G m)(hb:sb (G hv) len m=G b)(hl:sb lo 0 b=G l){Q:Nat × Nat × Nat->Hp->Prop}(H:Q (l,b,m) h):hw P (Instr.sliceBounds isS len cap lo (G hv) (G mv)) Q h:=by
 have J9:sb (G hv) 0 m=G b:=by unfold sb at hb ⊢;cases hv<;>simp at hb ⊢<;>exact hb
 unfold Instr.sliceBounds;rw[Zk];show hw P (Instr.sliceBound mv cap _) _ h;rw[Gp rfl hm,Zk,Gp rfl J9]
 cases lo with
 | none=>simp only[sb,Option.some.injEq]at hl;subst hl;exact H
 | some v=>
  show hw P (Instr.sliceBound v b _ >>= _) _ h;rw[Zk,Gp rfl hl];exact H
theorem oy{x:D}{lo hi mx:Option a4}(H:Ey (Xn P t) (QP P t) (Vf P t) (tn P) x (lu F lo) (lu F hi) (lu F mx) K h):hw P (Instr.sliceAt t x (lo.map (ev F)) (hi.map (ev F)) (mx.map (ev F))) K h:=by
 have e:∀o,lu F o=o.map (ev F):=fun o=>by cases o<;>rfl
 rw[e,e,e]at H;generalize lo.map (ev F)=lo at *;generalize hi.map (ev F)=hi at *;generalize mx.map (ev F)=mx at *;unfold Ey at H;split at H
 .rename_i mv a len cap e ha hs;unfold QP at hs;split at hs
  .rename_i e' hu;simp only[Option.some.injEq]at hs;subst hs;split at H
   .rename_i hv m hm;unfold Py at H;split at H
    .rename_i n b hn hb;split at H
     .rename_i l hl;unfold Instr.sliceAt;rw[Zk,ZH hu];simp only;unfold Instr.slice;rw[Zk,ZH hu];simp only;rw[Zk];refine AM hm hb hl ?_;simp only[Zk,run_sizeOf hn,ZL];exact H
     .exact H.elim
    .exact H.elim
   .exact H.elim
  .cases hs
 .rename_i a len cap e ha hs;unfold QP at hs;split at hs
  .rename_i e' hu;simp only[Option.some.injEq]at hs;subst hs;unfold Py at H;split at H
   .rename_i n b hn hb;split at H
    .rename_i l hl;unfold Instr.sliceAt;rw[Zk,ZH hu];simp only;unfold Instr.slice;rw[Zk,ZH hu];simp only;rw[Zk];refine N9 hb hl ?_;simp only[Zk,run_sizeOf hn,ZL];exact H
    .exact H.elim
   .exact H.elim
  .cases hs
 .rename_i a len e ha hs;unfold Xn at ha;split at ha
  .rename_i n' e' hu;simp only[Option.some.injEq,Prod.mk.injEq]at ha;obtain⟨rfl,rfl⟩:=ha;unfold Py at H;split at H
   .rename_i n b hn hb;split at H
    .rename_i l hl;unfold Instr.sliceAt;rw[Zk,ZH hu];simp only[Instr.sureAddr,Zk,ZL];refine N9 hb hl ?_;simp only[Zk,run_sizeOf hn,ZL];have e3:(if n'=l then G a else (G a).map (·.add (l*n)))=G (if n'=l then a else a.add (l*n)):=by split<;>rfl
     rw[e3]at H;exact H
    .exact H.elim
   .exact H.elim
  .cases ha
 .rename_i s ha hs EB;unfold Vf at EB;split at EB
  .rename_i hu;split at H
   .rename_i b hb;split at H
    .rename_i l hl;unfold Instr.sliceAt;rw[Zk,ZH hu];simp only;unfold Instr.slice;rw[Zk,ZH hu];simp only[bP,a2,if_false];rw[Zk];refine N9 hb hl ?_;exact H
    .exact H.elim
   .exact H.elim
  .cases EB
 .exact H.elim
theorem uT{l c:D}(H:vMk (QP P t) (tn P) (tb P) (tz P) l c K h):hw P (Instr.makeSlice t l c) K h:=by
 unfold vMk at H;split at H
 .rename_i e k l k' c he;unfold QP at he;split at he
  .rename_i e' hu;simp only[Option.some.injEq]at he;subst he;unfold Zb2 at H;split at H
   .rename_i n bytes z hn OT hz;split at H
    .rename_i hc;obtain⟨fv,h0,hlc,ZB5,Y5⟩:=hc;obtain⟨i0,PK⟩:∃i,P.info? e'=G i:=by
      unfold tn at hn
      cases hi:P.info? e' with
      | none=>rw[hi]at hn;cases hn
      | some i=>exact⟨i,rfl⟩
     have Ma:i0.bytes=bytes:=by unfold tb at OT;rw[PK]at OT;simpa using OT
     have w1:IntKind.i64.wrap l=l:=cg l ⟨nT,nT⟩;have w2:IntKind.i64.wrap c=c:=cg c ⟨nT,nT⟩;have Zf1:¬((bytes:Int)*c>2 ^ 48):=nT;unfold Instr.makeSlice;simp only[Zk,ZH hu,asInt,asIntOf,ZL,X1 PK,w1,w2,Ma];have MT:¬((decide (c<0)||decide ((bytes:Int)*c>2 ^ 48)||decide (l<0)||decide (l>c))=true):=by
      simp;omega
     rw[if_neg MT];have SC:∀{Q:Unit->Hp->Prop} (b:Nat) (g:Hp),Q () g->hw P (askRoom b) Q g:=fun {Q} b g q=>by
      unfold askRoom;split<;>exact q
     rw[Zk];refine SC _ _ ?_;rw[Zk,run_sizeOf hn];have fin:∀z':Array D,(bS (c.toNat*n)).map (fun j=>z'[j%z'.size]!)=(Qg c.toNat z).toArray->hw P (do
       let a <-newRow e' ((bS (c.toNat*n)).map (fun j=>z'[j%z'.size]!))
       pure (Value.slice (G a) l.toNat c.toNat)) K h:=by
      intro z' Cz;rw[Cz];exact H
     split
     .rename_i h0;refine fin #[] ?_;have:(Qg c.toNat z).length=0:=by rw[Oa,fv,h0]
      rw[a0 this,h0];simp
     .rename_i h0;obtain⟨v,hv,hr⟩:=HJ hz;rw[Zk,hr];refine fin v.cells ?_;have:z≠[]:=by intro e;subst e;simp at fv;subst fv;simp at h0
      rw[hv,<-fv];exact lF z this c.toNat
    .exact H.elim
   .exact H.elim
  .cases he
 .exact H.elim
theorem AN{op:Op}(H:Sb P T op ty K F h):Ew P T ⟨U,op,ty, "", #[],U⟩ K F h:=by
 have lift:∀{s:Sem D},hw P s K h->hw P (do pure (Next.value (<-s))) (Jt P T K) h:=fun {s} H=>by rw[Zk];exact H
 unfold Sb at H;split at H
 .exact H
 .exact H
 .rename_i c a b;show hw P (do pure (.value (if <-asBool (ev F c) then ev F a else ev F b))) (Jt P T K) h;unfold Dj at H;split at H
  .rename_i t ht;rw[ht];cases t<;>exact H
  .exact H.elim
 .rename_i e;refine lift ?_;unfold uP tz at H;split at H
  .rename_i l hl
   cases hi:P.info? e with
   | none=>rw[hi]at hl;cases hl
   | some i=>
    rw[hi]at hl
    cases hz:i.zero with
    | none=>rw[am,hz]at hl;cases hl
    | some z=>
     rw[am,hz]at hl;simp only[aU,Option.some.injEq]at hl;subst hl;simp only[Instr.alloc,zeroValue,Zk,X1 hi,hz,newVar,newRow,newObj,ZL,hw]
     simpa using H
  .exact H.elim
 .rename_i e x;refine lift ?_;simp only[uP,MO]at H;simp only[Instr.box,newVar,newRow,newObj,Zk,ZL];exact H
 .exact lift (fU H)
 .refine (?_:hw P (do Instr.storeAt _ _ _;pure Next.skip) (Jt P T K) h);rw[Zk];exact AI H
 .exact lift (AJ H)
 .exact lift (uR H)
 .rename_i x;unfold fO at H;split at H
  .rename_i a hx;show hw P (match ev F x with|.pointer U|.nilIface|.nilFunc=>_|.func (.method name) first captured=>_|x=>_) _ h;rw[hx];exact H
  .rename_i f a b hx;show hw P (match ev F x with|.pointer U|.nilIface|.nilFunc=>_|.func (.method name) first captured=>_|x=>_) _ h;rw[hx];exact H
  .exact H.elim
 .exact lift H
 .exact lift H
 .exact lift H
 .exact lift (Ez H)
 .rename_i fn first captured;refine lift ?_;have e1:∀l:Array a4,l.map (ev F)=(nZ F l.toList).toArray:=fun l=>by rw[Cy,<-bn]
  show hw P (Instr.makeFunc fn (first.map (ev F)) (captured.map (ev F))) K h;rw[e1,e1];exact H
 .rename_i f args ts;exact fW (x:=f) (c:=⟨.value f,args,ts⟩) rfl rfl (by rw[Cy];simp) H
 .rename_i b args ts;have e1:args.map (ev F)=(nZ F args.toList).toArray:=by rw[Cy,<-bn]
  unfold PY at H;rw[<-e1]at H;exact H
 .exact lift (AL H)
 .exact lift (EA H)
 .exact lift (oq H)
 .exact lift (ov H)
 .exact lift (oy H)
 .exact lift (uT H)
 .exact H
theorem QG{o:Oper}(H:Sb P T o.op o.type K F h):Ew P T o K F h:=AN H
def WC:List Oper->Env->Nat->D
 | [],_,_=>undef
 | o :: _,F,0=>match o.dst with|some t=>F t|none=>undef
 | _ :: l,F,n+1=>WC l F n
def JL(v:D)(b:Bool)(A B:Prop):Prop:=match v with|ab c=>if c=b then A else B|_=>B
def MU(P:aa)(T:al)(ops:List Oper)(N:Env->Hp->Prop):List Oper->Env->Hp->Prop
 | [],F,h=>N F h
 | ⟨d,op,ty,_,_,U⟩ :: l,F,h=>Sb P T op ty (fun v h'=>MU P T ops N l (YB F d v) h') F h
 | ⟨d,op,ty,_,_,G (j,b)⟩ :: l,F,h=>JL (WC ops F j) b (Sb P T op ty (fun v h'=>MU P T ops N l (YB F d v) h') F h) (MU P T ops N l (YB F d undef) h)
theorem EC(ops:List Oper)(F:Env):∀j,Ve ops.toArray F j=match WC ops F j with|ab b=>G b|_=>U:=by
 intro j;unfold Ve;rw[cc]
 induction ops generalizing j with
 | nil=>rfl
 | cons o l ih=>
  cases j with
  | zero=>simp only[b4,am,WC];cases o.dst<;>rfl
  | succ j=>simp only[b5,WC];exact ih j
theorem XK(ops:List Oper)(F:Env)(d:Option Tmp)(op:Op)(pos:String)(Vi:Array Edge)(j:Nat)(b:Bool){A B:Prop}(H:JL (WC ops F j) b A B):
  (YI ops.toArray ⟨d,op,ty,pos,Vi,G (j,b)⟩ F=true/\A)\/(YI ops.toArray ⟨d,op,ty,pos,Vi,G (j,b)⟩ F=false/\B):=by
 unfold YI bo;simp only[EC];unfold JL at H;split at H
 .rename_i c hc;split at H
  .rename_i CA;exact .inl ⟨by simp[CA],H⟩
  .rename_i CA;exact .inr ⟨by simpa using CA,H⟩
 .rename_i Y4;refine .inr ⟨?_,H⟩
  cases hv:WC ops F j<;>first|rfl|exact (Y4 _ hv).elim
theorem Uv{op:Op}{K':D->Hp->Prop}(hk:∀v h,K v h->K' v h)(H:Sb P T op ty K F h):Ew P T ⟨U,op,ty, "", #[],U⟩ K' F h:=MK hk (AN H)
theorem VQ:∀(l:List Oper) (F:Env) (h:Hp),MU P T ops N l F h->nV P T ops.toArray N l F h
 | [],F,h,H=>H
 | ⟨d,op,ty,pos,Vi,U⟩ :: l,F,h,H=>by
  show (if YI ops.toArray _ F=true then _ else _);rw[if_pos (by rfl)];exact Uv (fun v h' q=>VQ l _ _ q) H
 | ⟨d,op,ty,pos,Vi,G (j,b)⟩ :: l,F,h,H=>by
  show (if YI ops.toArray _ F=true then _ else _);rcases XK ops F d op pos Vi j b H with⟨hw,H⟩|⟨hw,H⟩
  .rw[if_pos hw];exact Uv (fun v h' q=>VQ l _ _ q) H
  .rw[hw,if_neg uK];exact VQ l _ _ H
def S7(P:aa)(T:al)(ops:List Oper)(S:Hp->Prop)(N:Env->Hp->Prop):List (Nat × Bool × Oper)->Env->Hp->Prop
 | [],F,h=>N F h
 | (_,true,⟨d,op,ty,_,_,U⟩) :: l,F,h=>∃v,(∀h',S h'->Sb P T op ty (fun v' Kg=>v'=v/\Kg=h') F h')/\S7 P T ops S N l (YB F d v) h
 | (_,false,⟨d,op,ty,_,_,U⟩) :: l,F,h=>Sb P T op ty (fun v h'=>S h'/\S7 P T ops S N l (YB F d v) h') F h
 | (_,true,⟨d,op,ty,_,_,G (j,b)⟩) :: l,F,h=>JL (WC ops F j) b (∃v,(∀h',S h'->Sb P T op ty (fun v' Kg=>v'=v/\Kg=h') F h')/\S7 P T ops S N l (YB F d v) h) (S7 P T ops S N l (YB F d undef) h)
 | (_,false,⟨d,op,ty,_,_,G (j,b)⟩) :: l,F,h=>JL (WC ops F j) b (Sb P T op ty (fun v h'=>S h'/\S7 P T ops S N l (YB F d v) h') F h) (S7 P T ops S N l (YB F d undef) h)
theorem Jx{S:Hp->Prop}:∀(l:List (Nat × Bool × Oper)) (F:Env) (h:Hp),S7 P T ops S N l F h->MM P T ops.toArray S N l F h
 | [],F,h,H=>H
 | (i,true,⟨d,op,ty,pos,Vi,U⟩) :: l,F,h,H=>by
  show (if YI ops.toArray _ F=true then _ else _);rw[if_pos (by rfl)];obtain⟨v,hv,H⟩:=H;exact⟨v,fun h' hs=>QG (hv h' hs),Jx l _ _ H⟩
 | (i,false,⟨d,op,ty,pos,Vi,U⟩) :: l,F,h,H=>by
  show (if YI ops.toArray _ F=true then _ else _);rw[if_pos (by rfl)];exact Uv (fun v h' q=>⟨q.1,Jx l _ _ q.2⟩) H
 | (i,true,⟨d,op,ty,pos,Vi,G (j,b)⟩) :: l,F,h,H=>by
  show (if YI ops.toArray _ F=true then _ else _);rcases XK ops F d op pos Vi j b H with⟨hw,H⟩|⟨hw,H⟩
  .rw[if_pos hw];obtain⟨v,hv,H⟩:=H;exact⟨v,fun h' hs=>QG (hv h' hs),Jx l _ _ H⟩
  .rw[hw,if_neg uK];exact Jx l _ _ H
 | (i,false,⟨d,op,ty,pos,Vi,G (j,b)⟩) :: l,F,h,H=>by
  show (if YI ops.toArray _ F=true then _ else _);rcases XK ops F d op pos Vi j b H with⟨hw,H⟩|⟨hw,H⟩
  .rw[if_pos hw];exact Uv (fun v h' q=>⟨q.1,Jx l _ _ q.2⟩) H
  .rw[hw,if_neg uK];exact Jx l _ _ H
theorem VS.Zf2{X:Nat->Env->Hp->Prop}{R:Env->Hp->Prop}{id:Nat}(hm:P.follows .mixedOrders=true)(Uj:S5 n ops.toArray ((bl ops.toArray.size).map fun i=>(i,true))=true)(H:S7 P T ops (fun h'=>h'=h) N (ops.map fun o=>(0,true,o)) F h):VS P n T (.region id ops.toArray true) N X R F h:=by
 refine VS.quiet hm Uj ?_;have key:∀(l:List Oper) (k:Nat) (F:Env),(∀j,l[j]? = ops[k+j]?)->S7 P T ops (fun h'=>h'=h) N (l.map fun o=>(0,true,o)) F h ->
   S7 P T ops (fun h'=>h'=h) N (Vz ops.toArray ((cy k (M l)).map fun i=>(i,true))) F h:=by
  intro l
  induction l with
  | nil=>intro k F _ H;exact H
  | cons o l ih=>
   intro k F hl H;have h0:ops[k]? = G o:=by simpa using (hl 0).symm
   have fw:∀j,l[j]? = ops[k+1+j]?:=fun j=>by have:=hl (j+1);simpa [cj,cr 1 j] using this
   have e:Vz ops.toArray ((cy k (o :: l).length).map fun i=>(i,true))=(k,true,o) :: Vz ops.toArray ((cy (k+1) (M l)).map fun i=>(i,true)):=by
    simp[Vz,List.range'_succ,h0]
   rw[e];obtain⟨d,op,ty,pos,Vi,g⟩:=o
   cases g with
   | none=>
    obtain⟨v,hv,H⟩:=H;exact⟨v,hv,ih (k+1) _ fw H⟩
   | some jb=>
    obtain⟨j,b⟩:=jb;simp only[cP,S7]at H ⊢;unfold JL at *;split at H
    .split at H
     .rename_i CA;rw[if_pos CA];obtain⟨v,hv,H⟩:=H;exact⟨v,hv,ih (k+1) _ fw H⟩
     .rename_i CA;rw[if_neg CA];exact ih (k+1) _ fw H
    .exact ih (k+1) _ fw H
 have:=key ops 0 F (fun j=>by simp) H;rw[List.range_eq_range'];exact Jx _ _ _ this
def uU(v:D)(A B:Prop):Prop:=match v with|ab b=>if b=true then A else B|_=>False
def vc(P:aa)(n:Nat)(T:al):Code->(Env->Hp->Prop)->(Nat->Env->Hp->Prop)->(Env->Hp->Prop)->Env->Hp->Prop
 | .skip,N,_,_,F,h=>N F h
 | .ret,_,_,R,F,h=>R F h
 | .exit j,_,X,_,F,h=>X j F h
 | .seq a b,N,X,R,F,h=>vc P n T a (fun F h=>vc P n T b N X R F h) X R F h
 | .cond c a b,N,X,R,F,h=>uU (ev F c) (vc P n T a N X R F h) (vc P n T b N X R F h)
 | .block j c,N,X,R,F,h=>vc P n T c N (fun i F h=>if i=j then N F h else X i F h) R F h
 | .region _ ops false,N,_,_,F,h=>MU P T ops.toList N ops.toList F h
 | c,N,X,R,F,h=>VS P n T c N X R F h
def codeOk(n:Nat):Code->Bool
 | .seq a b=>codeOk n a&&codeOk n b
 | .cond _ a b=>codeOk n a&&codeOk n b
 | .block _ c=>codeOk n c
 | .region _ ops false=>Ii n ops
 | _=>true
theorem Qw:∀(c:Code) (N:Env->Hp->Prop) (X:Nat->Env->Hp->Prop) (R:Env->Hp->Prop) (F:Env) (h:Hp),codeOk n c=true->vc P n T c N X R F h->VS P n T c N X R F h:=by
 intro c
 induction c with
 | skip=>intro N X R F h _ H;exact VS.skip H
 | ret=>intro N X R F h _ H;exact VS.ret H
 | exit j=>intro N X R F h _ H;exact VS.exit H
 | seq a b iha ihb=>
  intro N X R F h Uj H;simp only[codeOk,aq]at Uj;exact VS.seq (VS.mono (iha _ _ _ _ _ Uj.1 H) (fun F h q=>ihb _ _ _ _ _ Uj.2 q) (fun _ _ _ q=>q) (fun _ _ q=>q))
 | cond c a b iha ihb=>
  intro N X R F h Uj H;simp only[codeOk,aq]at Uj;simp only[vc,uU]at H;split at H
  .rename_i t ht;refine VS.cond ht (fun hb=>?_) (fun hb=>?_)
   .rw[if_pos hb]at H;exact iha _ _ _ _ _ Uj.1 H
   .rw[if_neg (by simp[hb])]at H;exact ihb _ _ _ _ _ Uj.2 H
  .exact H.elim
 | block j c ih=>intro N X R F h Uj H;exact VS.block (ih _ _ _ _ _ Uj H)
 | region id ops draw=>
  intro N X R F h Uj H
  cases draw with
  | true=>exact H
  | false=>exact VS.region Uj (by simpa using VQ _ _ _ H)
 | _=>intro N X R F h _ H;exact H
theorem Zd.Zb5{f:FuncId}{fn:Func}{c:Code}{l:List ResultVar}{args:List D}(hf:P.funcs[f]? = G fn)(hb:fn.body=G c)(hl:fn.results=l.toArray)(hn:cS (M args) fn.ntmps=true)(Uj:codeOk fn.ntmps c=true)(H:vc P fn.ntmps T c (fun F h'=>Gj P l F Q h') (fun _ _ _=>False) (fun F h'=>Gj P l F Q h') (Hb args 0) h):
  Zd P T f args.toArray h Q:=
 Zd.HF hf hb hl (by simpa using hn) (by simpa using Qw _ _ _ _ _ _ Uj H)
end
section
variable {P:aa} {T:al} {K:D->Hp->Prop} {F:Env} {h:Hp} {ty:O}
def Zb6(P:aa)(T:al)(ops:List Oper)(N:Env->Hp->Prop)(l:List Oper)(F:Env)(d:Option Tmp):D->Hp->Prop:=fun v h=>MU P T ops N l (YB F d v) h
theorem uV{l:List Oper}:Zb6 P T ops N l F d v h=MU P T ops N l (YB F d v) h:=rfl
theorem uW:MU P T ops N [] F h=N F h:=rfl
theorem fX{l:List Oper}{op:Op}{pos:String}{Vi:Array Edge}:
  MU P T ops N (⟨d,op,ty,pos,Vi,U⟩ :: l) F h=Sb P T op ty (Zb6 P T ops N l F d) F h:=rfl
def fY(P:aa)(T:al)(ops:List Oper)(N:Env->Hp->Prop)(l:List Oper)(F:Env)(d:Option Tmp)(op:Op)(ty:O)(v:D)(b:Bool)(h:Hp):Prop:=
 JL v b (Sb P T op ty (Zb6 P T ops N l F d) F h) (MU P T ops N l (YB F d undef) h)
theorem fZ{l:List Oper}{op:Op}{pos:String}{Vi:Array Edge}{j:Nat}{b:Bool}:
  MU P T ops N (⟨d,op,ty,pos,Vi,G (j,b)⟩ :: l) F h=fY P T ops N l F d op ty (WC ops F j) b h:=rfl
theorem AO{l:List Oper}{op:Op}{b c:Bool}:
  fY P T ops N l F d op ty (.bool c) b h=if c=b then Sb P T op ty (Zb6 P T ops N l F d) F h else MU P T ops N l (YB F d undef) h:=rfl
def ZjU(P:aa)(n:Nat)(T:al)(b:Code)(N:Env->Hp->Prop)(X:Nat->Env->Hp->Prop)(R:Env->Hp->Prop):Env->Hp->Prop:=fun F h=>vc P n T b N X R F h
def ZjV(j:Nat)(N:Env->Hp->Prop)(X:Nat->Env->Hp->Prop):Nat->Env->Hp->Prop:=fun i F h=>if i=j then N F h else X i F h
def AP:Nat->Env->Hp->Prop:=fun _ _ _=>False
def oB(P:aa)(l:List ResultVar)(Q:D->Hp->Prop):Env->Hp->Prop:=fun F h=>Gj P l F Q h
def ZeS(P:aa)(n:Nat)(T:al)(v:D)(a b:Code)(N:Env->Hp->Prop)(X:Nat->Env->Hp->Prop)(R:Env->Hp->Prop)(F:Env)(h:Hp):Prop:=
 uU v (vc P n T a N X R F h) (vc P n T b N X R F h)
section
variable {n:Nat} {N:Env->Hp->Prop} {X:Nat->Env->Hp->Prop} {R:Env->Hp->Prop}
theorem uX{b:Code}:ZjU P n T b N X R F h=vc P n T b N X R F h:=rfl
theorem uY{j:Nat}:ZjV j N X i F h=if i=j then N F h else X i F h:=rfl
theorem oC:AP i F h=False:=rfl
theorem uZ{l:List ResultVar}:oB P l Q F h=Gj P l F Q h:=rfl
theorem Zb7:vc P n T .skip N X R F h=N F h:=rfl
theorem Zf3:vc P n T .ret N X R F h=R F h:=rfl
theorem Zb8{j:Nat}:vc P n T (.exit j) N X R F h=X j F h:=rfl
theorem Zf4{a b:Code}:vc P n T (.seq a b) N X R F h=vc P n T a (ZjU P n T b N X R) X R F h:=rfl
theorem Zb9{c:a4}{a b:Code}:vc P n T (.cond c a b) N X R F h=ZeS P n T (ev F c) a b N X R F h:=rfl
theorem vd{j:Nat}{c:Code}:vc P n T (.block j c) N X R F h=vc P n T c N (ZjV j N X) R F h:=rfl
theorem oE{id:Nat}{l:List Oper}:vc P n T (.region id l.toArray false) N X R F h=MU P T l N l F h:=rfl
theorem Zca{id:Nat}{l:Array Oper}:vc P n T (.region id l true) N X R F h=VS P n T (.region id l true) N X R F h:=rfl
theorem Zcb{c:Code}:vc P n T (.loop c) N X R F h=VS P n T (.loop c) N X R F h:=rfl
theorem ga{a b:Code}{t:Bool}:ZeS P n T (ab t) a b N X R F h=if t=true then vc P n T a N X R F h else vc P n T b N X R F h:=rfl
end
theorem Zd.ve{f:FuncId}{fn:Func}{c:Code}{l:List ResultVar}{args:List D}(hf:P.funcs[f]? = G fn)(hb:fn.body=G c)(hl:fn.results=l.toArray)(hn:cS (M args) fn.ntmps=true)(Uj:codeOk fn.ntmps c=true)(H:vc P fn.ntmps T c (oB P l Q) AP (oB P l Q) (Hb args 0) h):Zd P T f args.toArray h Q:=Zd.Zb5 hf hb hl hn Uj H
theorem Zd.XT{f:FuncId}{fn:Func}{c:Code}{l:List ResultVar}(args:List D)(hf:P.funcs[f]? = G fn)(H:vc P fn.ntmps T c (oB P l Q) AP (oB P l Q) (Hb args 0) h)(hb:fn.body=G c:=by rfl)(hl:fn.results=l.toArray:=by rfl)(hn:cS (M args) fn.ntmps=true:=by rfl)(Uj:codeOk fn.ntmps c=true:=by rfl):Zd P T f args.toArray h Q:=Zd.ve hf hb hl hn Uj H
def XU(I:Env->Hp->Prop)(μ:Env->Hp->Nat)(m:Nat):Env->Hp->Prop:=fun F h=>I F h/\μ F h<m
theorem VS.Yk{X:Nat->Env->Hp->Prop}{R:Env->Hp->Prop}{c:Code}(I:Env->Hp->Prop)(μ:Env->Hp->Nat)(Uj:codeOk n c=true)(h0:I F h)(round:∀F h,I F h->vc P n T c (XU I μ (μ F h)) X R F h):VS P n T (.loop c) N X R F h:=
 VS.loop I μ h0 fun F h hI=>Qw _ _ _ _ _ _ Uj (round F h hI)
theorem Zd.use{f:FuncId}{args:Array D}(c:Zd P T f args h Q)(H:∀v h',Q v h'->K v h'):Zd P T f args h K:=c.mono H
theorem Zd.pure{f:FuncId}{args:Array D}{r:D}(c:Zd P T f args h fun v h'=>v=r/\h'=h)(H:K r h):Zd P T f args h K:=
 c.mono fun _ _ ⟨e1,e2⟩=>by subst e1;subst e2;exact H
def ap(B:D->Prop)(v:D):Prop:=B v
def OU(v:D)(h:Hp):D->Hp->Prop:=fun v' h'=>v'=v/\h'=h
def Kh(P:aa)(T:al)(ops:List Oper)(N:Env->Hp->Prop):List Oper->Env->Hp->Prop
 | [],F,h=>N F h
 | ⟨d,op,ty,_,_,U⟩ :: l,F,h=>∃v,Sb P T op ty (OU v h) F h/\Kh P T ops N l (YB F d v) h
 | ⟨d,op,ty,_,_,G (j,b)⟩ :: l,F,h=>JL (WC ops F j) b (∃v,Sb P T op ty (OU v h) F h/\Kh P T ops N l (YB F d v) h) (Kh P T ops N l (YB F d undef) h)
theorem Uw:∀(l:List Oper) (F:Env),Kh P T ops N l F h->S7 P T ops (fun h'=>h'=h) N (l.map fun o=>(0,true,o)) F h
 | [],_,H=>H
 | ⟨d,op,ty,pos,Vi,U⟩ :: l,F,H=>by
  obtain⟨v,hv,H⟩:=H;exact⟨v,fun h' e=>by subst e;exact hv,Uw l _ H⟩
 | ⟨d,op,ty,pos,Vi,G (j,b)⟩ :: l,F,H=>by
  simp only[Kh,JL]at H;simp only[cP,S7,JL];split at H
  .split at H
   .rename_i CA;rw[if_pos CA];obtain⟨v,hv,H⟩:=H;exact⟨v,fun h' e=>by subst e;exact hv,Uw l _ H⟩
   .rename_i CA;rw[if_neg CA];exact Uw l _ H
  .exact Uw l _ H
theorem VS.q{X:Nat->Env->Hp->Prop}{R:Env->Hp->Prop}{id:Nat}(hm:P.follows .mixedOrders=true)(Uj:S5 n ops.toArray ((bl ops.toArray.size).map fun i=>(i,true))=true)(H:Kh P T ops N ops F h):VS P n T (.region id ops.toArray true) N X R F h:=VS.Zf2 hm Uj (Uw _ _ H)
def qK(P:aa)(T:al)(ops:List Oper)(N:Env->Hp->Prop)(l:List Oper)(F:Env)(d:Option Tmp)(h:Hp):D->Prop:=fun v=>Kh P T ops N l (YB F d v) h
def CD(P:aa)(T:al)(op:Op)(ty:O)(B:D->Prop)(F:Env)(h:Hp):Prop:=∃v,Sb P T op ty (OU v h) F h/\ap B v
def vf(P:aa)(T:al)(ops:List Oper)(N:Env->Hp->Prop)(l:List Oper)(F:Env)(d:Option Tmp)(op:Op)(ty:O)(v:D)(b:Bool)(h:Hp):Prop:=
 JL v b (CD P T op ty (qK P T ops N l F d h) F h) (Kh P T ops N l (YB F d undef) h)
theorem vg:Kh P T ops N [] F h=N F h:=rfl
theorem gd{l:List Oper}{op:Op}{pos:String}{Vi:Array Edge}:
  Kh P T ops N (⟨d,op,ty,pos,Vi,U⟩ :: l) F h=CD P T op ty (qK P T ops N l F d h) F h:=rfl
theorem gg{l:List Oper}{op:Op}{pos:String}{Vi:Array Edge}{j:Nat}{b:Bool}:
  Kh P T ops N (⟨d,op,ty,pos,Vi,G (j,b)⟩ :: l) F h=vf P T ops N l F d op ty (WC ops F j) b h:=rfl
theorem AQ{l:List Oper}{op:Op}{b c:Bool}:
  vf P T ops N l F d op ty (ab c) b h=if c=b then CD P T op ty (qK P T ops N l F d h) F h else Kh P T ops N l (YB F d undef) h:=rfl
theorem Zf5{l:List Oper}:qK P T ops N l F d h v=Kh P T ops N l (YB F d v) h:=rfl
def qR(x:Option D)(B:D->Prop):Prop:=match x with|some v=>ap B v|none=>False
theorem Zcc{B:D->Prop}:qR (G v) B=B v:=rfl
theorem ud{B:D->Prop}:(∃u,OU u h v h/\ap B u)=B v:=by
 apply propext;constructor
 .rintro⟨u,⟨e,_⟩,H⟩;subst e;exact H
 .intro H;exact⟨v,⟨rfl,rfl⟩,H⟩
section
variable {B:D->Prop}
theorem vj:CD P T (.move x) ty B F h=B (ev F x):=ud
theorem gh:CD P T (.assign x) ty B F h=B (ev F x):=ud
def vm(c a b:D)(B:D->Prop):Prop:=match c with|ab t=>B (if t then a else b)|_=>False
theorem gj{t:Bool}{a b:D}:vm (ab t) a b B=B (if t=true then a else b):=rfl
theorem vo{c a b:a4}:CD P T (.pick c a b) ty B F h=vm (ev F c) (ev F a) (ev F b) B:=by
 show (∃u,Dj _ _ _ (OU u h) h/\ap B u)=_;unfold Dj vm
 cases ev F c<;>first|exact ud|simp
def lG(s:Option Bool)(n:Option Nat)(p:D)(B:D->Prop)(h:Hp):Prop:=
 match p with
 | J (G a)=>match s,n with
  | some false,_=>qR (hc h a) B
  | some true,G n=>qR ((rd h a n).map fun l=>aw l.toArray) B
  | _,_=>False
 | _=>False
theorem oF{n:Option Nat}:lG (G false) n (J (G a)) B h=qR (hc h a) B:=rfl
theorem gk:lG (G true) (G n) (J (G a)) B h=qR ((rd h a n).map fun l=>aw l.toArray) B:=rfl
theorem vq:CD P T (.load t x) ty B F h=lG (ta P t) (tn P t) (ev F x) B h:=by
 show (∃u,MP _ _ _ (OU u h) h/\ap B u)=_;unfold MP lG
 cases ev F x with
 | pointer a=>
  cases a with
  | none=>simp
  | some a=>
   simp only;rcases ta P t with _|b
   .simp
   .cases b
    .simp only[Hc,qR]
     cases hc h a with
     | none=>simp
     | some v=>exact ud
    .rcases tn P t with _|n
     .simp
     .simp only[Gk,qR]
      cases rd h a n with
      | none=>simp
      | some v=>exact ud
 | _=>simp
def gm(f:Option Nat)(p:D)(B:D->Prop):Prop:=match f,p with|some o,J (G a)=>B (J (G (a.add o)))|_,_=>False
theorem AS{f:Nat}:gm (G o) (J (G ⟨b,f,U⟩)) B=B (J (G ⟨b,f+o,U⟩)):=by
 show B (J (G (Addr.add _ _)))=_;rw[XL]
theorem oH:CD P T (.fieldAddr t x i) ty B F h=gm (tf P t i) (ev F x) B:=by
 show (∃u,NZ _ _ (OU u h) h/\ap B u)=_;unfold NZ gm;rcases tf P t i with _|o
 .simp
 .cases ev F x with
  | pointer a=>cases a with
   | none=>simp
   | some a=>exact ud
  | _=>simp
def qIx(arr:Option (Nat × O))(sl:Option O)(n:O->Option Nat)(p i:D)(B:D->Prop):Prop:=
 match i with
 | .int _ i=>(match arr,sl,p with
  | some (len,e),U,J (G a)=>(match n e with
   | some n=>if 0<=i/\i<(len:Int) then B (J (G (a.add (i.toNat*n)))) else False
   | none=>False)
  | none,G e,Z (G a) len _=>(match n e with
   | some n=>if 0<=i/\i<(len:Int) then B (J (G (a.add (i.toNat*n)))) else False
   | none=>False)
  | _,_,_=>False)
 | _=>False
def Zcd(m:Option Nat)(len:Nat)(a:Addr)(i:Int)(B:D->Prop):Prop:=
 match m with|some m=>if 0<=i/\i<(len:Int) then B (J (G (a.add (i.toNat*m)))) else False|none=>False
theorem Zce{n:O->Option Nat}{i:Int}:qIx (G (len,e)) U n (J (G a)) (.int k i) B=Zcd (n e) len a i B:=rfl
theorem oI{n:O->Option Nat}{i:Int}:qIx U (G e) n (Z (G a) len cap) (.int k i) B=Zcd (n e) len a i B:=rfl
theorem oJ{f:Nat}{i:Int}:Zcd (G m) len ⟨b,f,U⟩ i B=if 0<=i/\i<(len:Int) then B (J (G ⟨b,f+i.toNat*m,U⟩)) else False:=by
 simp only[Zcd,XL]
theorem Mb{c:Prop}[Decidable c]{A:D->Prop}:(∃u,(if c then A u else False)/\ap B u)=if c then (∃u,A u/\ap B u) else False:=by
 split<;>simp
theorem Zf6{i:a4}:CD P T (.indexAddr t x i) ty B F h=qIx (Xn P t) (QP P t) (tn P) (ev F x) (ev F i) B:=by
 show (∃u,vIx _ _ _ _ _ (OU u h) h/\ap B u)=_;unfold vIx qIx
 cases ev F i with
 | int k i=>
  simp only;rcases Xn P t with _|⟨len,e⟩
  .rcases QP P t with _|e
   .simp
   .cases ev F x with
    | slice a len cap=>
     cases a with
     | none=>simp
     | some a=>
      simp only;rcases tn P e with _|n
      .simp
      .simp only;rw[Mb,ud]
    | _=>simp
  .rcases QP P t with _|e'
   .cases ev F x with
    | pointer a=>
     cases a with
     | none=>simp
     | some a=>
      simp only;rcases tn P e with _|n
      .simp
      .simp only;rw[Mb,ud]
    | _=>simp
   .simp
 | _=>simp
def MV(v:D)(i:Nat)(B:D->Prop):Prop:=match v with|.tuple vs=>qR (vs[i]?) B|_=>False
theorem Gq:MV (.tuple l.toArray) i B=qR (nth l i) B:=by simp[MV,YW]
theorem AT:CD P T (.extract x i) ty B F h=MV (ev F x) i B:=by
 show (∃u,Vg _ _ (OU u h) h/\ap B u)=_;unfold Vg MV
 cases ev F x with
 | tuple vs=>
  simp only[Hc,qR]
  cases vs[i]? with
  | none=>simp
  | some v=>exact ud
 | _=>simp
def Zf7(v:D)(B:D->Prop):Prop:=match v with|J (G a)=>B (J (G a))|.func (.func f) x y=>B (.func (.func f) x y)|_=>False
theorem CE:Zf7 (J (G a)) B=B (J (G a)):=rfl
theorem Zcf:CD P T (.nilCheck x) ty B F h=Zf7 (ev F x) B:=by
 show (∃u,fO _ (OU u h) h/\ap B u)=_;unfold fO Zf7
 cases ev F x with
 | pointer a=>cases a with
  | none=>simp
  | some a=>exact ud
 | func f a b=>cases f with
  | func f=>exact ud
  | _=>simp
 | _=>simp
theorem Zcg{op:BinOp}{t':O}:CD P T (.binOp op t x y t') ty B F h = ∃u,XS P op t x y (ev F x) (ev F y) (OU u h) h/\ap B u:=rfl
theorem Zf8{op:UnOp}:CD P T (.unOp op t x) ty B F h = ∃u,vUn P op (ev F x) (OU u h) h/\ap B u:=rfl
theorem vr{s d:O}:CD P T (.convert s d x) ty B F h = ∃u,MQ P s d (ev F x) (OU u h) h/\ap B u:=rfl
theorem Zf9{b:Builtin}{args:Array a4}{ts:Array O}:CD P T (.call ⟨.builtin b,args,ts⟩) ty B F h =
  ∃u,PY P T b ts ty (args.map fun|.const _=>true|_=>false) (nZ F args.toList) (OU u h) h/\ap B u:=rfl
end
theorem Zga{t:Nat}:ev F (.tmp t)=F t:=rfl
theorem vu:ev F (.const v)=v:=rfl
theorem oK{g:Nat}:ev F (.global g)=J (G ⟨g,0,U⟩):=rfl
theorem Zch{g:Nat}:ev F (.func g)=.func (.func g) #[] #[]:=rfl
theorem Zq{d:Nat}{t:Nat}:YB F (G d) v t=if t=d then v else F t:=rfl
theorem oL:YB F U v=F:=rfl
theorem Zci{d:Nat}{t:Nat}:upd F d v t=if t=d then v else F t:=rfl
theorem gn{t:Bool}{a b:D}:Dj (ab t) a b K h=K (if t=true then a else b) h:=rfl
theorem oM:uP (G l) t K h=K (J (G ⟨h.size,0,U⟩)) (h.push (Y l.toArray t)):=rfl
theorem oN:Hc (G v) K h=K v h:=rfl
theorem oP:Gk (G l) K h=K (aw l.toArray) h:=rfl
theorem Dm{n:Option Nat}:MP (G false) n (J (G a)) K h=Hc (hc h a) K h:=rfl
theorem Gs:MP (G true) (G n) (J (G a)) K h=Gk (rd h a n) K h:=rfl
theorem vw:lj (G h') K=K undef h':=rfl
theorem gq{i:Int}:VA (G n) (J (G a)) (.int k i) K h=if n=1 then lj (QQ h a (.int k i)) K else False:=rfl
theorem AU{b:Bool}:VA (G n) (J (G a)) (ab b) K h=if n=1 then lj (QQ h a (ab b)) K else False:=rfl
theorem CF{p:Option Addr}{l c:Nat}:VA (G n) (J (G a)) (Z p l c) K h=if n=1 then lj (QQ h a (Z p l c)) K else False:=rfl
theorem ED{s:ByteArray}:VA (G n) (J (G a)) (.string s) K h=if n=1 then lj (QQ h a (.string s)) K else False:=rfl
theorem Gt{p:Option Addr}:VA (G n) (J (G a)) (.pointer p) K h=if n=1 then lj (QQ h a (.pointer p)) K else False:=rfl
theorem gu{p:Option Nat}:VA (G n) (J (G a)) (.map p) K h=if n=1 then lj (QQ h a (.map p)) K else False:=rfl
theorem AV{f:Fn}{x y:Array D}:VA (G n) (J (G a)) (.func f x y) K h=if n=1 then lj (QQ h a (.func f x y)) K else False:=rfl
theorem Gu:VA (G n) (J (G a)) .nilFunc K h=if n=1 then lj (QQ h a .nilFunc) K else False:=rfl
theorem gv:VA (G n) (J (G a)) (aw l.toArray) K h=if n=(M l) then lj (wr h a l) K else False:=rfl
theorem AW{f:Nat}:NZ (G o) (J (G ⟨b,f,U⟩)) K h=K (J (G ⟨b,f+o,U⟩)) h:=by
 show K (J (G (Addr.add _ _))) h=_;rw[XL]
def Zcj(m:Option Nat)(len:Nat)(a:Addr)(i:Int)(K:D->Hp->Prop)(h:Hp):Prop:=
 match m with|some m=>if 0<=i/\i<(len:Int) then K (J (G (a.add (i.toNat*m)))) h else False|none=>False
theorem Zck{n:O->Option Nat}{i:Int}:
  vIx (G (len,e)) U n (J (G a)) (.int k i) K h=Zcj (n e) len a i K h:=rfl
theorem oQ{n:O->Option Nat}{i:Int}:
  vIx U (G e) n (Z (G a) len cap) (.int k i) K h=Zcj (n e) len a i K h:=rfl
theorem oR{f:Nat}{i:Int}:Zcj (G m) len ⟨b,f,U⟩ i K h=if 0<=i/\i<(len:Int) then K (J (G ⟨b,f+i.toNat*m,U⟩)) h else False:=by
 simp only[Zcj,XL]
theorem Gv:Vg (.tuple l.toArray) i K h=Hc (nth l i) K h:=by simp[Vg,YW]
theorem CG:fO (J (G a)) K h=K (J (G a)) h:=rfl
theorem oS{f:FuncId}{x y:Array D}:fO (.func (.func f) x y) K h=K (.func (.func f) x y) h:=rfl
theorem gx{f:FuncId}(hg:goes P f=true):Gl P T (.func (.func f) #[] #[]) l K h=Zd P T f l.toArray h K:=by
 simp only[Gl,hg,↓reduceIte];simp
theorem vx{a b:Int}:XS P .add t x y (.int k a) (.int k b) K h=K (.int k (k.wrap (a+b))) h:=by
 simp[XS,binOp,Op.intArith,ZL,eqGuard]
theorem vy{a b:Int}:XS P .sub t x y (.int k a) (.int k b) K h=K (.int k (k.wrap (a-b))) h:=by
 simp[XS,binOp,Op.intArith,ZL,eqGuard]
theorem vz{a b:Int}:XS P .mul t x y (.int k a) (.int k b) K h=K (.int k (k.wrap (a*b))) h:=by
 simp[XS,binOp,Op.intArith,ZL,eqGuard]
theorem vA{a b:Int}:XS P .quo t x y (.int k a) (.int k b) K h=if b=0 then False else K (.int k (k.wrap (a.tdiv b))) h:=by
 simp only[XS,binOp,Op.intDiv,Zk,eqGuard];by_cases hb:b=0
 .subst hb;simp[runtimePanic,goPanic,Zk,hw,ZL,program]
 .simp[hb,ZL]
theorem vB{a b:Int}:XS P .rem t x y (.int k a) (.int k b) K h=if b=0 then False else K (.int k (a.tmod b)) h:=by
 simp only[XS,binOp,Op.intDiv,Zk,eqGuard];by_cases hb:b=0
 .subst hb;simp[runtimePanic,goPanic,Zk,hw,ZL,program]
 .simp[hb,ZL]
def YN(op:BinOp)(k:IntKind)(a b:Int):Int:=
 let x:=BitVec.ofInt k.bits a
 let y:=BitVec.ofInt k.bits b
 k.wrap (match op with|.and=>x &&& y|.or=>x ||| y|.xor=>x ^^^ y|_=>x &&& ~~~y).toNat
theorem vC{a b:Int}:XS P .and t x y (.int k a) (.int k b) K h=K (.int k (YN .and k a b)) h:=by
 simp[XS,binOp,Op.intBits,ZL,eqGuard,YN]
theorem Zcl{a b:Int}:XS P .or t x y (.int k a) (.int k b) K h=K (.int k (YN .or k a b)) h:=by
 simp[XS,binOp,Op.intBits,ZL,eqGuard,YN]
theorem vD{a b:Int}:XS P .xor t x y (.int k a) (.int k b) K h=K (.int k (YN .xor k a b)) h:=by
 simp[XS,binOp,Op.intBits,ZL,eqGuard,YN]
theorem AX{a b:Int}:XS P .andNot t x y (.int k a) (.int k b) K h=K (.int k (YN .andNot k a b)) h:=by
 simp[XS,binOp,Op.intBits,ZL,eqGuard,YN]
def Xo(k:IntKind)(a b:Int):Int:=k.wrap (a*2 ^ min b.toNat k.bits)
def XA(k:IntKind)(a b:Int):Int:=a.fdiv (2 ^ min b.toNat k.bits)
theorem vE{k':IntKind}{a b:Int}:XS P .shl t x y (.int k a) (.int k' b) K h=if b<0 then False else K (.int k (Xo k a b)) h:=by
 simp only[XS,binOp,Op.shift,Zk,eqGuard];by_cases hb:b<0
 .simp[hb,runtimePanic,goPanic,Zk,hw,ZL,program]
 .simp[hb,ZL,Xo]
theorem vF{k':IntKind}{a b:Int}:XS P .shr t x y (.int k a) (.int k' b) K h=if b<0 then False else K (.int k (XA k a b)) h:=by
 simp only[XS,binOp,Op.shift,Zk,eqGuard];by_cases hb:b<0
 .simp[hb,runtimePanic,goPanic,Zk,hw,ZL,program]
 .simp[hb,ZL,XA]
theorem vG{a b:Int}:XS P .eql t x y (.int k a) (.int k b) K h=K (ab (decide (a=b))) h:=by
 simp[XS,binOp,Op.intCmp,ZL,eqGuard];rfl
theorem vH{a b:Int}:XS P .neq t x y (.int k a) (.int k b) K h=K (ab (decide (a≠b))) h:=by
 simp[XS,binOp,Op.intCmp,ZL,eqGuard];have:(a != b) = !decide (a=b):=by rfl
 rw[this]
theorem vI{a b:Int}:XS P .lss t x y (.int k a) (.int k b) K h=K (ab (decide (a<b))) h:=by
 simp[XS,binOp,Op.intCmp,ZL,eqGuard]
theorem vJ{a b:Int}:XS P .leq t x y (.int k a) (.int k b) K h=K (ab (decide (a<=b))) h:=by
 simp[XS,binOp,Op.intCmp,ZL,eqGuard]
theorem vK{a b:Int}:XS P .gtr t x y (.int k a) (.int k b) K h=K (ab (decide (b<a))) h:=by
 simp[XS,binOp,Op.intCmp,ZL,eqGuard]
theorem vL{a b:Int}:XS P .geq t x y (.int k a) (.int k b) K h=K (ab (decide (b<=a))) h:=by
 simp[XS,binOp,Op.intCmp,ZL,eqGuard]
theorem Zcm{b:Bool}:vUn P .not (ab b) K h=K (ab (!b)) h:=rfl
theorem Zcn{a:Int}:vUn P .neg (.int k a) K h=K (.int k (k.wrap (0-a))) h:=rfl
theorem Zco{a:Int}:vUn P .xor (.int k a) K h=K (.int k (YN .xor k (if k.signed then -1 else k.max) a)) h:=rfl
def vM(d:Option IntKind)(a:Int)(K:D->Hp->Prop)(h:Hp):Prop:=match d with|some k=>K (.int k (k.wrap a)) h|none=>False
theorem AY{a:Int}:vM (G k) a K h=K (.int k (k.wrap a)) h:=rfl
theorem oU{s d:O}{j:IntKind}{a:Int}(hs:(Ex P s).isSome=true)(hd:(Ex P d).isSome=true):MQ P s d (.int j a) K h=vM (Ex P d) a K h:=by
 unfold Ex at hd hs;split at hd
 .rename_i k1 h1;split at hs
  .rename_i k2 h2;simp only[MQ,convert,Zk,ZH h1,ZH h2];unfold Ex;rw[h1];rfl
  .cases hs
 .cases hd
theorem oV{a b:ByteArray}:XS P .eql t x y (.string a) (.string b) K h=K (ab (a.toList == b.toList)) h:=by
 simp[XS,binOp,Op.stringOp,ZL,eqGuard]
theorem oW{a b:ByteArray}:XS P .neq t x y (.string a) (.string b) K h=K (ab (!(a.toList == b.toList))) h:=by
 simp[XS,binOp,Op.stringOp,ZL,eqGuard]
theorem CI{cs:Array Bool}{p:Option Addr}{l c:Nat}(ht:(QP P t).isSome=true):
  PY P T .len #[t] ty cs [Z p l c] K h=K (.int .i64 l) h:=by
 unfold QP at ht;split at ht
 .rename_i e' hu;simp[PY,builtin,cW,Zk,ZL,ZH hu,Jt,goInt]
 .cases ht
theorem oX(h:Vf P t=true):P.underlying t=G .string:=by
 unfold Vf at h;split at h
 .assumption
 .cases h
theorem EE{cs:Array Bool}{s:ByteArray}(ht:Vf P t=true):
  PY P T .len #[t] ty cs [.string s] K h=K (.int .i64 s.size) h:=by
 simp[PY,builtin,cW,Zk,ZL,ZH (oX ht),Jt,goInt]
theorem Zcp{ts:Array O}{cs:Array Bool}{k':IntKind}{a b:Int}:PY P T .min ts ty cs [.int k a,.int k' b] K h=K (.int k (if b<a then b else a)) h:=by
 simp[PY,builtin,Builtin.min_,Builtin.min2,ZL,Jt]
theorem Zcq{ts:Array O}{cs:Array Bool}{k':IntKind}{a b:Int}:PY P T .max ts ty cs [.int k a,.int k' b] K h=K (.int k (if b>a then b else a)) h:=by
 simp[PY,builtin,Builtin.max_,Builtin.max2,ZL,Jt]
end
section
variable {P:aa} {T:al} {K:D->Hp->Prop} {F:Env} {h:Hp} {ty:O} {B:D->Prop}
def vN(p:Option (Nat × Nat))(place:Nat->Option (Nat × Nat))(cs:List D)(v:D)(l:List (Nat × D)):Option (List D):=
 match p with
 | some (o,s)=>if (cl v).length=s/\o+s<=(M cs) then Vh place (Y8 cs o (cl v)) l else U
 | none=>U
theorem oY:Vh place cs []=G cs:=rfl
theorem gy{l:List (Nat × D)}:Vh place cs ((i,v) :: l)=vN (place i) place cs v l:=rfl
theorem AZ{s:Nat}{l:List (Nat × D)}:
  vN (G (o,s)) place cs v l=if (cl v).length=s/\o+s<=(M cs) then Vh place (Y8 cs o (cl v)) l else U:=rfl
theorem oZ:MR n i=G (i*n,n):=rfl
theorem EF{z:List D}{pl:List (Nat × Nat)}{n:O->Option Nat}:N0 (G z) (G pl) U n parts K h=Gk (Vh (nth pl) z parts) K h:=rfl
theorem gz{z:List D}{e:Nat}{n:O->Option Nat}:N0 (G z) U (G (m,e)) n parts K h=HG (n e) z parts K h:=rfl
theorem CK{z:List D}:HG (G n) z parts K h=Gk (Vh (MR n) z parts) K h:=rfl
theorem gC:ln e len (G l) K h=K (Z (G ⟨h.size,0,U⟩) len len) (h.push (Y l.toArray e)):=rfl
theorem Gw{z:List D}:OR e (G n) (G z) len parts K h=if (M z)=n/\len*n<=16777216 then ln e len (HH n len z parts) K h else False:=rfl
theorem EG{n:O->Option Nat}{z:O->Option (List D)}:MS (G e) n z len parts K h=OR e (n e) (z e) len parts K h:=rfl
theorem gD:In (G true) (G n) cs o K h=K (aw ((cs.drop o).take n).toArray) h:=rfl
theorem A0{n:Option Nat}:In (G false) n cs o K h=Hc (nth cs o) K h:=rfl
theorem ph{t:Nat}{a:O->Option Bool}{n:O->Option Nat}:uQ (G (o,t)) a n (aw cs.toArray) K h=In (a t) (n t) cs o K h:=rfl
theorem vO{e:Nat}{a:O->Option Bool}{n:O->Option Nat}{i:Int}:om (G (len,e)) false a n (aw cs.toArray) (.int k i) K h=lq (n e) (a e) len cs i K h:=rfl
theorem gE{a:Option Bool}{i:Int}:lq (G m) a len cs i K h=if 0<=i/\i<(len:Int) then In a (G m) cs (i.toNat*m) K h else False:=rfl
theorem vP{a:O->Option Bool}{n:O->Option Nat}{s:ByteArray}{i:Int}:om U true a n (.string s) (.int k i) K h=if 0<=i/\i<(s.size:Int) then K (.int .u8 ((s.data.toList.getD i.toNat 0).toNat:Nat)) h else False:=rfl
theorem Zcr{d y:Nat}:sb U d y=G d:=rfl
theorem Zgb{i:Int}{d y:Nat}:sb (G (.int k i)) d y=if 0<=i/\i<=(y:Int) then G i.toNat else U:=rfl
def Nz(a:Option Addr)(n cap b:Nat)(l:Option Nat)(K:D->Hp->Prop)(h:Hp):Prop:=
 match l with|some l=>K (Z (if cap=l then a else a.map (·.add (l*n))) (b-l) (cap-l)) h|none=>False
def vQ(n:Nat)(a:Option Addr)(cap:Nat)(lo:Option D)(b:Option Nat)(K:D->Hp->Prop)(h:Hp):Prop:=
 match b with|some b=>Nz a n cap b (sb lo 0 b) K h|none=>False
theorem gF{a:Option Addr}{hi:Option D}:Py (G n) a len cap lo hi K h=vQ n a cap lo (sb hi len cap) K h:=by
 unfold Py vQ Nz
 cases sb hi len cap<;>rfl
theorem gG{a:Option Addr}:vQ n a cap lo (G b) K h=Nz a n cap b (sb lo 0 b) K h:=rfl
theorem gH{l k:Nat}:Nz (G ⟨k,o,U⟩) n cap b (G l) K h=K (Z (if cap=l then G ⟨k,o,U⟩ else G ⟨k,o+l*n,U⟩) (b-l) (cap-l)) h:=by
 simp only[Nz,aU,XL]
theorem gI{l:Nat}:Nz U n cap b (G l) K h=K (Z U (b-l) (cap-l)) h:=by
 simp[Nz]
theorem gJ{e:Nat}{str:Bool}{n:O->Option Nat}{a:Option Addr}{hi:Option D}:Ey U (G e) str n (Z a len cap) lo hi U K h=Py (n e) a len cap lo hi K h:=rfl
def vS(n:Option Nat)(a:Option Addr)(len:Nat)(lo:Option D)(hv:D)(m:Option Nat)(K:D->Hp->Prop)(h:Hp):Prop:=match m with|some m=>Py n a len m lo (G hv) K h|none=>False
theorem gK{n:Option Nat}{a:Option Addr}{hv:D}:vS n a len lo hv (G m) K h=Py n a len m lo (G hv) K h:=rfl
theorem vU{e:Nat}{str:Bool}{n:O->Option Nat}{a:Option Addr}{hv mv:D}:Ey U (G e) str n (Z a len cap) lo (G hv) (G mv) K h=vS (n e) a len lo hv (sb (G mv) 0 cap) K h:=by
 simp only[Ey,vS]
 cases sb (G mv) 0 cap<;>rfl
theorem vV{e:Nat}{str:Bool}{n:O->Option Nat}{hi:Option D}:Ey (G (len,e)) U str n (J (G a)) lo hi U K h=Py (n e) (G a) len len lo hi K h:=rfl
def ZjW(s:ByteArray)(lo:Option D)(b:Option Nat)(K:D->Hp->Prop)(h:Hp):Prop:=
 match b with
 | some b=>(match sb lo 0 b with|some l=>K (.string (s.extract l b)) h|none=>False)
 | none=>False
theorem vW{n:O->Option Nat}{s:ByteArray}{hi:Option D}:Ey U U true n (.string s) lo hi U K h=ZjW s lo (sb hi s.size s.size) K h:=rfl
theorem vX{e:Nat}{n b':O->Option Nat}{z:O->Option (List D)}{k':IntKind}{l c:Int}:vMk (G e) n b' z (.int k l) (.int k' c) K h=Zb2 e (n e) (b' e) (z e) l c K h:=rfl
theorem pj{e by':Nat}{z:List D}{l c:Int}:Zb2 e (G n) (G by') (G z) l c K h =
  if (M z)=n/\0<=l/\l<=c/\c<=9223372036854775807/\(by':Int)*c<=281474976710656 then K (Z (G ⟨h.size,0,U⟩) l.toNat c.toNat) (h.push (Y (Qg c.toNat z).toArray e)) else False:=rfl
theorem Zcs:CD P T (.field t x i) ty B F h = ∃u,uQ (tfl P t i) (ta P) (tn P) (ev F x) (OU u h) h/\ap B u:=rfl
theorem Zct{i:a4}:CD P T (.index t x i) ty B F h = ∃u,om (Xn P t) (Vf P t) (ta P) (tn P) (ev F x) (ev F i) (OU u h) h/\ap B u:=rfl
theorem Zcu{lo hi mx:Option a4}:CD P T (.slice t x lo hi mx) ty B F h = ∃u,Ey (Xn P t) (QP P t) (Vf P t) (tn P) (ev F x) (lu F lo) (lu F hi) (lu F mx) (OU u h) h/\ap B u:=rfl
theorem po{parts:Array (Nat × a4)}:CD P T (.build t parts) ty B F h = ∃u,N0 (tz P t) (Ny P t) (Xn P t) (tn P) (fP F parts.toList) (OU u h) h/\ap B u:=rfl
theorem Zgc:cl (aw l.toArray)=l:=rfl
theorem OV:hc (h.push (Y l.toArray t)) ⟨b,o,U⟩=if b=h.size then nth l o else hc h ⟨b,o,U⟩:=by
 unfold hc;simp only[a1];by_cases hb:b=h.size
 .subst hb;simp[YW]
 .simp[hb]
theorem lH:rd (h.push (Y l.toArray t)) ⟨b,o,U⟩ n=if b=h.size then (if o+n<=(M l) then G ((l.drop o).take n) else U) else rd h ⟨b,o,U⟩ n:=by
 unfold rd;simp only[a1];by_cases hb:b=h.size
 .subst hb;simp
 .simp[hb]
def A7(x:Option Hp)(o:Obj):Option Hp:=match x with|some h=>G (h.push o)|none=>U
theorem gL{o:Obj}:A7 (G h) o=G (h.push o):=rfl
theorem set_push{o o':Obj}(hb:b<h.size):(h.push o).setIfInBounds b o'=(h.setIfInBounds b o').push o:=by
 apply ba;intro i;simp only[ao,a1,bf,Array.size_setIfInBounds];by_cases h1:b=i
 .subst h1;rw[if_pos rfl,if_pos nT,if_neg nT,if_pos rfl,if_pos hb]
 .rw[if_neg h1];by_cases h2:i=h.size
  .rw[if_pos h2,if_pos h2]
  .rw[if_neg h2,if_neg h2,if_neg h1]
theorem UT{o o':Obj}:(h.push o).setIfInBounds h.size o'=h.push o':=by
 apply ba;intro i;simp only[ao,a1,bf];by_cases h1:h.size=i
 .subst h1;rw[if_pos rfl,if_pos nT,if_pos rfl]
 .rw[if_neg h1,if_neg (fun e=>h1 e.symm),if_neg (fun e=>h1 e.symm)]
theorem vY:QQ (h.push (Y l.toArray t)) ⟨b,o,U⟩ v=if b=h.size then (if o<(M l)/\YD v=true then G (h.push (Y (l.set o v).toArray t)) else U) else A7 (QQ h ⟨b,o,U⟩ v) (Y l.toArray t):=by
 unfold QQ;simp only[a1];by_cases hb:b=h.size
 .subst hb;simp only[↓reduceIte,ct,br,true_and,UT,List.setIfInBounds_toArray]
 .simp only[if_neg hb]
  cases hx:h[b]? with
  | none=>rfl
  | some ob=>
   have ZS:=(a3.1 hx).1
   cases ob with
   | cells c e fr=>
    obtain⟨lo,hi⟩:=fr;simp only;split
    .simp only[A7,set_push ZS]
    .rfl
   | _=>rfl
theorem Zcv{vs:List D}:wr (h.push (Y l.toArray t)) ⟨b,o,U⟩ vs=if b=h.size then (if o+(M vs)<=(M l)/\vs.all YD=true then G (h.push (Y (Y8 l o vs).toArray t)) else U) else A7 (wr h ⟨b,o,U⟩ vs) (Y l.toArray t):=by
 unfold wr;simp only[a1];by_cases hb:b=h.size
 .subst hb;simp only[↓reduceIte,ct,br,true_and,UT]
 .simp only[if_neg hb]
  cases hx:h[b]? with
  | none=>rfl
  | some ob=>
   have ZS:=(a3.1 hx).1
   cases ob with
   | cells c e fr=>
    obtain⟨lo,hi⟩:=fr;simp only;split
    .simp only[A7,set_push ZS]
    .rfl
   | _=>rfl
end
def JG(h:Hp)(b o:Nat)(cs:List D):Prop:=∀i (hi:i<(M cs)),hc h ⟨b,o+i,U⟩=G cs[i]
def Sl(n:Nat)(h:Hp)(v:D)(m:Nat)(cs:List D):Prop:=
 ∃p cap,v=Z p m cap/\(M cs)=m*n/\(cs≠[]->∃b o,p=G ⟨b,o,U⟩/\JG h b o cs)
def UK(B:Nat)(E:O)(n:Nat)(h:Hp)(v:D)(m:Nat)(cs:List D):Prop:=
 ((∃p,v=Z p 0 0)/\m=0/\cs=[]) \/
 ∃b cap ZG,B<=b/\v=Z (G ⟨b,0,U⟩) m cap/\h[b]? = G (Y (cs++ZG).toArray E (0,0))/\(M cs)=m*n/\(M ZG)=(cap-m)*n/\m<=cap
structure Zj(B:Nat)(h h':Hp):Prop where
 size:h.size<=h'.size
 block:∀b,b<B->h'[b]? = h[b]?
theorem Zj.refl(B:Nat)(h:Hp):Zj B h h:=⟨br _,fun _ _=>rfl⟩
theorem Zj.trans{Kg:Hp}(a:Zj B h h')(b:Zj B h' Kg):Zj B h Kg:=
 ⟨Nat.le_trans a.size b.size,fun k hk=>(b.block k hk).trans (a.block k hk)⟩
theorem Zj.mono{B':Nat}(a:Zj B h h')(hB:B'<=B):Zj B' h h':=⟨a.size,fun k hk=>a.block k (Nat.lt_of_lt_of_le hk hB)⟩
theorem Zj.push(hB:B<=h.size)(o:Obj):Zj B h (h.push o):=
 ⟨uK,fun k hk=>by rw[a1,if_neg nT]⟩
theorem Zj.set(hb:B<=b)(o:Obj):Zj B h (h.setIfInBounds b o):=
 ⟨uK,fun k hk=>by rw[ao,if_neg nT]⟩
theorem Zj.hc(a:Zj B h h'){p:Addr}(hp:p.block<B):hc h' p=hc h p:=by unfold V.hc;rw[a.block _ hp]
theorem Za{o:Obj}(hb:h[b]? = G o):b<h.size:=(a3.1 hb).1
theorem Vj{p:Addr}(hp:hc h p=G v):p.block<h.size:=by
 unfold hc at hp
 cases hb:h[p.block]? with
 | none=>rw[hb]at hp;cases hp
 | some o=>exact Za hb
theorem S8{c:Array D}{fr:Nat × Nat}(hb:h[b]? = G (Y c e fr))(o:Nat):hc h ⟨b,o,U⟩=c[o]?:=by
 unfold hc;simp only[hb];rfl
theorem Zj.JG(a:Zj B h h')(hb:b<B)(XI:JG h b o cs):JG h' b o cs:=
 fun i hi=>by rw[a.hc (by exact hb)];exact XI i hi
theorem Sl.Yz(s:Sl n h v m cs)(a:Zj h.size h h'):Sl n h' v m cs:=by
 obtain⟨p,cap,hv,hl,hc⟩:=s;refine⟨p,cap,hv,hl,fun Y4=>?_⟩;obtain⟨b,o,hp,XI⟩:=hc Y4;refine⟨b,o,hp,a.JG ?_ XI⟩;have Gm:0<(M cs):=bx.2 Y4;exact Vj (XI 0 Gm)
theorem UK.sl(s:UK B E n h v m cs):Sl n h v m cs:=by
 rcases s with⟨⟨p,rfl⟩,rfl,rfl⟩|⟨b,cap,ZG,hB,rfl,hb,hl,_,_⟩
 .exact⟨p,0,rfl,uK,fun h=>(h rfl).elim⟩
 .refine⟨_,cap,rfl,hl,fun _=>⟨b,0,rfl,fun i hi=>?_⟩⟩;rw[S8 hb,b7];simp[bR hi]
theorem UK.nil(B:Nat)(E:O)(n:Nat)(h:Hp):UK B E n h (Z U 0 0) 0 []:=.inl ⟨⟨U,rfl⟩,rfl,rfl⟩
theorem UK.EH(B:Nat)(E:O)(n:Nat)(h:Hp)(p:Option Addr):UK B E n h (Z p 0 0) 0 []:=.inl ⟨⟨p,rfl⟩,rfl,rfl⟩
def Yf:D->Option Nat
 | Z (G a) _ cap=>if cap=0 then U else G a.block
 | _=>U
structure RM(x:Option Nat)(h h':Hp):Prop where
 size:h.size<=h'.size
 block:∀b,b<h.size->x≠G b->h'[b]? = h[b]?
theorem RM.Yz{x:Option Nat}(a:RM x h h')(hB:B<=h.size)(hx:∀b,x=G b->B<=b):Zj B h h':=
 ⟨a.size,fun k hk=>a.block k nT (fun e=>by have:=hx k e;omega)⟩
theorem UK.ZW(s:UK B E n h v m cs):∀b,Yf v=G b->B<=b:=by
 intro b hb;rcases s with⟨⟨p,rfl⟩,_,_⟩|⟨b',cap,ZG,hB,rfl,_⟩
 .cases p<;>simp[Yf]at hb
 .simp only[Yf]at hb;split at hb
  .cases hb
  .simp only[Option.some.injEq]at hb;omega
theorem UK.lI(s:UK B E n h v m cs){x:Option Nat}(a:RM x h h')(hx:∀b,Yf v=G b->x≠G b):UK B E n h' v m cs:=by
 rcases s with s|⟨b,cap,ZG,hB,rfl,hb,r⟩
 .exact .inl s
 .by_cases hc:cap=0
  .subst hc;obtain⟨r1,r2,r3⟩:=r;have hm:m=0:=nT;subst hm;exact .inl ⟨⟨_,rfl⟩,rfl,a0 (by simpa using r1)⟩
  .exact .inr ⟨b,cap,ZG,hB,rfl,by rw[a.block b (Za hb) (hx b (by simp[Yf,hc]))];exact hb,r⟩
theorem RM.push(o:Obj){x:Option Nat}:RM x h (h.push o):=⟨uK,fun k hk _=>by rw[a1,if_neg nT]⟩
theorem RM.refl{x:Option Nat}:RM x h h:=⟨br _,fun _ _ _=>rfl⟩
theorem UK.push(s:UK B E n h v m cs)(o:Obj):UK B E n (h.push o) v m cs:=
 s.lI (x:=U) (RM.push o) (fun _ _=>by simp)
theorem UK.Yz{C:Nat}(s:UK B E n h v m cs)(a:Zj C h h')(hC:h.size<=C):UK B E n h' v m cs:=
 s.lI (x:=U) ⟨a.size,fun b hb _=>a.block b nT⟩ (fun _ _=>by simp)
theorem UK.mono{B':Nat}(s:UK B E n h v m cs)(hB:B'<=B):UK B' E n h v m cs:=by
 rcases s with s|⟨b,cap,ZG,hb,r⟩
 .exact .inl s
 .exact .inr ⟨b,cap,ZG,nT,r⟩
section
variable {P:aa} {T:al} {K:D->Hp->Prop} {F:Env} {h:Hp} {ty:O}
theorem YC(s:Sl n h v m cs){Q:Array D->Hp->Prop}(H:Q cs.toArray h):hw P (Builtin.firstCells n m v) Q h:=by
 obtain⟨p,cap,rfl,hl,hc⟩:=s
 cases p with
 | none=>
  have:cs=[]:=by
   cases cs with
   | nil=>rfl
   | cons x l=>obtain⟨b,o,hp,_⟩:=hc uK;cases hp
  subst this;exact H
 | some a=>
  show hw P (loadCells a (m*n)) Q h;rw[<-hl];refine run_loadCells a cs _ 0 #[] (fun j hj=>?_) rfl (by simpa using H);obtain⟨b,o,hp,XI⟩:=hc (by intro e;subst e;simp at hj);simp only[Option.some.injEq]at hp;subst hp;rw[XL,b7,XI j hj];simp[hj]
theorem Sl.lenOf(s:Sl n h v m cs){Q:Nat->Hp->Prop}:hw P (Builtin.lenOf v) Q h=Q m h:=by
 obtain⟨p,cap,rfl,_,_⟩:=s;rfl
theorem Tn(l r vs:List D):Y8 (l++r) (M l) vs=l++Y8 r 0 vs:=by
 induction l with
 | nil=>simp
 | cons x l ih=>
  cases vs with
  | nil=>simp[Y8]
  | cons v vs=>simp only[cx,bd,Y8];rw[ih]
theorem UU(r vs:List D)(h:(M vs)<=(M r)):Y8 r 0 vs=vs++r.drop (M vs):=by
 induction vs generalizing r with
 | nil=>simp[Y8]
 | cons v vs ih=>
  cases r with
  | nil=>simp at h
  | cons x r=>simp only[Y8,cx,bd,ch];rw[ih r (by simpa using h)]
theorem Xp(z:Array D)(n:Nat):(b0 z n).size=n*z.size:=by simp[b0]
theorem To(WM cap bytes:Nat)(ZS:cap<WM)(hb:WM*bytes<=140737488355328):a6 WM cap*bytes<=281474976710656:=by
 have g1:∀(r c:Nat),WM<=c->bc WM r c=c:=by
  intro r c hc
  cases r with
  | zero=>rfl
  | succ r=>simp[bc,hc]
 have g2:∀(r c:Nat),c<WM->bc WM r c<=WM+(WM+768)/4:=by
  intro r
  induction r with
  | zero=>intro c hc;simp only[bc];omega
  | succ r ih=>
   intro c hc;simp only[bc];rw[if_neg nT];by_cases h2:c+(c+768)/4<WM
   .exact ih _ h2
   .rw[g1 r _ nT];omega
 have key:a6 WM cap<=2*WM+192:=by
  unfold a6;split
  .omega
  .split
   .omega
   .have:=g2 4 cap ZS;omega
 have e1:a6 WM cap*bytes<=(2*WM+192)*bytes:=a8 _ key;unfold a6;split
 .omega
 .rename_i h1;split
  .have:2*cap*bytes<=2*WM*bytes:=a8 _ nT;have e:2*WM*bytes=2*(WM*bytes):=by rw[Nat.mul_assoc]
   omega
  .rename_i h2;have hg:=g2 4 cap ZS;have h3:bc WM 4 cap*bytes<=(WM+(WM+768)/4)*bytes:=a8 _ hg;have h4:(WM+(WM+768)/4)*bytes<=(2*WM)*bytes:=a8 _ nT;have e:2*WM*bytes=2*(WM*bytes):=by rw[Nat.mul_assoc]
   omega
theorem Gx{sT xT E E' k bytes:Nat}{s:D}{news zs:List D}{cb:Array Bool}(VR:QP P sT=G E)(CL:P.underlying xT=G (.slice E'))(hn:tn P E=G n)(hz:tz P E=G zs)(gM:(M zs)=n)(OT:tb P E=G bytes)(Zm:UK B E n h v m cs)(hB:B<=h.size)(src:Sl n h s k news)(XW:news.all YD=true)(Y5:(m+k)*bytes<=140737488355328)(Gy:1<=bytes)(H:∀v' h',UK B E n h' v' (m+k) (cs++news)->RM (Yf v) h h'->K v' h'):PY P T .append #[sT,xT] ty cb [v,s] K h:=by
 unfold QP at VR;split at VR
 .rename_i e' hu;simp only[Option.some.injEq]at VR;subst VR;show hw P (do pure (.value (<-b8 #[sT,xT] ty #[v,s]))) (Jt P T K) h;rw[Zk];show hw P (b8 #[sT,xT] ty #[v,s]) K h;obtain⟨i0,PK⟩:∃i,P.info? e'=G i:=by
   unfold tn at hn
   cases hi:P.info? e' with
   | none=>rw[hi]at hn;cases hn
   | some i=>exact⟨i,rfl⟩
  have Ma:i0.bytes=bytes:=by unfold tb at OT;rw[PK]at OT;simpa using OT
  obtain⟨z0,Au,gN⟩:∃z,i0.zero=G z/\z.cells.toList=zs:=by
   unfold tz at hz;rw[PK]at hz
   cases HK:i0.zero with
   | none=>rw[am,HK]at hz;cases hz
   | some z=>rw[am,HK]at hz;exact⟨z,rfl,by simpa using hz⟩
  have hvs:∃base cap,v=Z base m cap:=by
   rcases Zm with⟨⟨p,rfl⟩,rfl,_⟩|⟨b,cap,sp,_,rfl,_⟩
   .exact⟨_,_,rfl⟩
   .exact⟨_,_,rfl⟩
  obtain⟨base,cap,hv⟩:=hvs;subst hv;have py:∀{Q:D->Hp->Prop} (g:Hp),hw P (zeroValue e') Q g=Q z0 g:=fun {Q} g=>by
   unfold zeroValue;rw[Zk,X1 PK];simp only[Au];rfl
  simp only[b8,cc,b4,b5,Zk,ZL,ZH hu,ZH CL,run_sizeOf hn,a2,if_false,src.lenOf,Bool.not_false,if_true];by_cases QR:m+k<=cap
  .rw[if_pos QR,Zk];refine YC src ?_;have VT:(M news)=k*n:=by obtain⟨_,_,_,hl,_⟩:=src;exact hl
   by_cases Y4:news=[]
   .subst Y4;have vZ:hw P (match base with|some a=>(do storeCells (a.add (m*n)) [];pure (Value.slice base (m+k) cap))|none=>pure (Value.slice base (m+k) cap)) K h=K (Z base (m+k) cap) h:=by
     cases base<;>rfl
    have hK:K (Z base (m+k) cap) h:=by
     refine H _ _ ?_ RM.refl;rcases Zm with⟨⟨p,h1⟩,h2,h3⟩|⟨b,Gz,ZG,HM,h1,hb,hl,NB,ue⟩
     .simp only[Value.slice.injEq]at h1;obtain⟨rfl,rfl,rfl⟩:=h1;have hk:k=0:=nT;subst hk;subst h3;exact .inl ⟨⟨_,rfl⟩,rfl,rfl⟩
     .simp only[Value.slice.injEq]at h1;obtain⟨rfl,_,rfl⟩:=h1;have uf:k*n=0:=by simpa using VT.symm
      refine .inr ⟨b,cap,ZG,HM,rfl,by simpa using hb,by rw[List.append_nil,hl,bh,uf];rfl,?_,QR⟩;rw[NB,cz,cz,bh,uf,cq]
    cases base<;>exact hK
   rcases Zm with⟨⟨p,h1⟩,h2,h3⟩|⟨b,Gz,ZG,HM,h1,hb,hl,NB,ue⟩
   .simp only[Value.slice.injEq]at h1;obtain⟨rfl,rfl,rfl⟩:=h1;have hk:k=0:=nT;subst hk;exact (Y4 (a0 (by simpa using VT))).elim
   .simp only[Value.slice.injEq]at h1;obtain⟨rfl,_,rfl⟩:=h1;simp only[Zk,XL];have RO:(M news)<=(M ZG):=by rw[VT,NB];exact a8 _ nT
    refine YV (e:=e') (lo:=0) (hi:=0) rfl (br _) news 0 h (cs++ZG).toArray hb ?_ XW ?_
    .simp;rw[<-hl];omega
    .simp only[ZL,b7,cq];refine H _ _ (.inr ⟨b,cap,ZG.drop (M news),HM,rfl,?_,?_,?_,QR⟩) ⟨uK,fun b' J9 hx=>?_⟩
     .rw[ao,if_pos rfl,if_pos (Za hb)];rw[<-hl,Tn,UU _ _ RO,List.append_assoc]
     .rw[bg,hl,VT,bh]
     .rw[cv,NB,VT,<-cz];congr 1;omega
     .rw[ao,if_neg];intro e;subst e;have hcz:cap≠0:=by
       intro h0;subst h0;have:k=0:=nT;subst this;exact Y4 (a0 (by simpa using VT))
      exact hx (by simp[Yf,hcz])
  .rw[if_neg QR];have Vk:¬a6 (m+k) cap*i0.bytes>2 ^ 48:=by
    rw[Ma];have:=To (m+k) cap bytes nT Y5;omega
   have gO:¬i0.bytes=0:=by rw[Ma];omega
   simp only[Zk,X1 PK,gO,or_false,and_false,if_false,if_neg Vk];intro t;obtain⟨c,hc⟩:=ZN (Question.cut (Question.appendCap (m+k) cap e') t);have wh:m+k<=c:=by rw[hc];simp only[Question.cut];omega
   rw[<-hc];have SC:∀{Q:Unit->Hp->Prop} (b:Nat) (g:Hp),Q () g->hw P (askRoom b) Q g:=fun {Q} b g q=>by
    unfold askRoom;split<;>exact q
   refine SC _ _ (YC Zm.sl (YC src ?_));rw[py];have wm:z0.cells.size=n:=by rw[<-gM,<-gN];simp
   refine H (Z (G ⟨h.size,0,U⟩) (m+k) c) _ (.inr ⟨h.size,c,(b0 z0.cells (c-(m+k))).toList,hB,rfl,?_,?_,?_,wh⟩) (RM.push _)
   .rw[Array.getElem?_push_size];simp
   .have VT:(M news)=k*n:=by obtain⟨_,_,_,hl,_⟩:=src;exact hl
    have JS:(M cs)=m*n:=by obtain⟨_,_,_,hl,_⟩:=Zm.sl;exact hl
    rw[bg,JS,VT,bh]
   .rw[Array.length_toList,Xp,wm]
 .cases VR
def bv(x:Nat):D:=.int .u8 x
structure Bs(h:Hp)(v:D)(l:List Nat):Prop where
 sl:Sl 1 h v (M l) (l.map bv)
 byte:∀x∈l,x<256
structure Yx(B:Nat)(E:O)(h:Hp)(v:D)(l:List Nat):Prop where
 Zm:UK B E 1 h v (M l) (l.map bv)
 byte:∀x∈l,x<256
theorem Yx.bs{l:List Nat}(s:Yx B E h v l):Bs h v l:=⟨s.Zm.sl,s.byte⟩
theorem Bs.Yz{l:List Nat}(s:Bs h v l)(a:Zj h.size h h'):Bs h' v l:=⟨s.sl.Yz a,s.byte⟩
theorem Yx.Yz{C:Nat}{l:List Nat}(s:Yx B E h v l)(a:Zj C h h')(hC:h.size<=C):Yx B E h' v l:=⟨s.Zm.Yz a hC,s.byte⟩
theorem Yx.mono{B':Nat}{l:List Nat}(s:Yx B E h v l)(hB:B'<=B):Yx B' E h v l:=⟨s.Zm.mono hB,s.byte⟩
theorem Yx.push{l:List Nat}(s:Yx B E h v l)(o:Obj):Yx B E (h.push o) v l:=⟨s.Zm.push o,s.byte⟩
theorem Yx.nil(B:Nat)(E:O)(h:Hp):Yx B E h (Z U 0 0) []:=⟨UK.nil B E 1 h,fun _ h=>by cases h⟩
theorem RP(l:List Nat):(l.map bv).all YD=true:=by simp[bv,YD]
theorem Bs.open{l:List Nat}(s:Bs h v l):∃p cap,v=Z p (M l) cap/\(l≠[]->∃b o,p=G ⟨b,o,U⟩/\b<h.size/\∀i (hi:i<(M l)),hc h ⟨b,o+i,U⟩=G (.int .u8 (l[i]:Nat))):=by
 obtain⟨⟨p,cap,hv,_,hc⟩,_⟩:=s;refine⟨p,cap,hv,fun Y4=>?_⟩;obtain⟨b,o,hp,XI⟩:=hc (by simpa using Y4);refine⟨b,o,hp,?_,fun i hi=>?_⟩
 .exact Vj (XI 0 (by simpa using bx.2 Y4))
 .have:=XI i (by simpa using hi)
  simpa [bv] using this
end
attribute [go_sem] Zb7 Zf3 Zb8 Zf4 Zb9 vd oE Zca Zcb uX uY oC uZ ga uW fX fZ AO uV
 Sb Zga vu oK Zch nZ Zq oL Zci Hb WC gn oM cl oN oP Dm Gs vw gq AU CF ED
 Gt gu AV Gu gv AW Zck oQ oR Gv CG oS gx
 vx vy vz vA vB vC Zcl vD AX vE vF vG vH vI vJ vK vL Zcm Zcn Zco oU AY
 oV oW CI EE Zcp Zcq vg gd gg AQ Zf5 Zcc ud vj gh vo gj vq oF gk oH AS Zf6 Zce oI oJ AT Gq Zcf CE Zcg Zf8 vr Zf9 Mb
 Gj QO NY aU am Option.isSome_some decide_eq_true_eq decide_eq_false_iff_not
attribute [go_sem] oY gy AZ oZ EF gz CK gC Gw EG gD A0 ph vO gE vP Zcr Zgb gF gG gH gI gJ vU gK vV vW
 vX pj Zcs Zct Zcu po Zgc OV lH gL vY Zcv fP lu nth Y8 fQ HH YD List.toList_toArray bd cF ch List.drop_zero List.take_succ_cons List.take_zero ck cn
 bp List.all_nil Bool.and_true bf b7 List.take_nil List.drop_nil
def vi:D->Int|.int _ n=>n|_=>0
theorem Y1(l:List α)(i:Nat)(hi:i<(M l)):l.take (i+1)=l.take i++[l[i]]:=List.take_succ_eq_append_getElem hi
def w64(n:Int):Int:=IntKind.i64.wrap n
theorem gP(n:Int):IntKind.i64.wrap n=if -9223372036854775808<=n/\n<=9223372036854775807 then n else w64 n:=by
 split
 .rename_i h;exact cg n h
 .rfl
theorem A9(n:Int):IntKind.u8.wrap n=n%256:=by simp[IntKind.wrap,IntKind.bits,IntKind.signed]
theorem MW(n:Int):IntKind.u32.wrap n=n%4294967296:=by simp[IntKind.wrap,IntKind.bits,IntKind.signed]
theorem MX(n:Int):IntKind.u64.wrap n=n%18446744073709551616:=by simp[IntKind.wrap,IntKind.bits,IntKind.signed]
attribute [go_sem] gP A9 MW MX true_and and_true ne_eq not_true_eq_false not_false_eq_true decide_true decide_false Bool.false_eq_true Int.toNat_natCast Nat.mul_one
theorem Ki(w a:Nat):BitVec.ofInt w (a:Int)=BitVec.ofNat w a:=by
 apply BitVec.eq_of_toNat_eq;simp[BitVec.toNat_ofNat]
theorem S9(k:IntKind)(n:Nat)(h:n<2 ^ (if k.signed then k.bits-1 else k.bits)):k.wrap (n:Int)=n:=by
 cases k<;>simp[IntKind.wrap,IntKind.bits,IntKind.signed]at h ⊢<;>omega
theorem OW(k:IntKind)(a b:Nat)(ha:a<2 ^ (if k.signed then k.bits-1 else k.bits))(hb:b<2 ^ (if k.signed then k.bits-1 else k.bits)):YN .and k a b=((a &&& b:Nat):Int):=by
 have hle:2 ^ (if k.signed then k.bits-1 else k.bits)<=2 ^ k.bits:=bt nT (by split<;>omega);simp only[YN,Ki];rw[BitVec.toNat_and,BitVec.toNat_ofNat,BitVec.toNat_ofNat,a7 nT,a7 nT];exact S9 k _ (Nat.lt_of_le_of_lt Nat.and_le_left ha)
theorem MY(k:IntKind)(a b:Nat)(ha:a<2 ^ (if k.signed then k.bits-1 else k.bits))(hb:b<2 ^ (if k.signed then k.bits-1 else k.bits)):YN .or k a b=((a ||| b:Nat):Int):=by
 have hle:2 ^ (if k.signed then k.bits-1 else k.bits)<=2 ^ k.bits:=bt nT (by split<;>omega);simp only[YN,Ki];rw[BitVec.toNat_or,BitVec.toNat_ofNat,BitVec.toNat_ofNat,a7 nT,a7 nT];exact S9 k _ (Nat.or_lt_two_pow ha hb)
theorem Dn(k:IntKind)(a b:Nat)(ha:a<2 ^ (if k.signed then k.bits-1 else k.bits))(hb:b<2 ^ (if k.signed then k.bits-1 else k.bits)):YN .xor k a b=((a ^^^ b:Nat):Int):=by
 have hle:2 ^ (if k.signed then k.bits-1 else k.bits)<=2 ^ k.bits:=bt nT (by split<;>omega);simp only[YN,Ki];rw[BitVec.toNat_xor,BitVec.toNat_ofNat,BitVec.toNat_ofNat,a7 nT,a7 nT];exact S9 k _ (Nat.xor_lt_two_pow ha hb)
theorem wo(a b:Nat)(ha:a<256)(hb:b<256):YN .and .u8 a b=((a &&& b:Nat):Int):=OW .u8 a b ha hb
theorem ZjX(a b:Nat)(ha:a<256)(hb:b<256):YN .or .u8 a b=((a ||| b:Nat):Int):=MY .u8 a b ha hb
theorem CM(a b:Nat)(ha:a<256)(hb:b<256):YN .xor .u8 a b=((a ^^^ b:Nat):Int):=Dn .u8 a b ha hb
theorem MZ(a b:Nat)(ha:a<4294967296)(hb:b<4294967296):YN .and .u32 a b=((a &&& b:Nat):Int):=OW .u32 a b ha hb
theorem Ob(a b:Nat)(ha:a<4294967296)(hb:b<4294967296):YN .or .u32 a b=((a ||| b:Nat):Int):=MY .u32 a b ha hb
theorem Ue(a b:Nat)(ha:a<4294967296)(hb:b<4294967296):YN .xor .u32 a b=((a ^^^ b:Nat):Int):=Dn .u32 a b ha hb
theorem Zcw(a b:Nat)(ha:a<18446744073709551616)(hb:b<18446744073709551616):YN .and .u64 a b=((a &&& b:Nat):Int):=OW .u64 a b ha hb
theorem gQ(a b:Nat)(ha:a<18446744073709551616)(hb:b<18446744073709551616):YN .or .u64 a b=((a ||| b:Nat):Int):=MY .u64 a b ha hb
theorem Zcx(a b:Nat)(ha:a<9223372036854775808)(hb:b<9223372036854775808):YN .and .i64 a b=((a &&& b:Nat):Int):=OW .i64 a b ha hb
theorem Mc(a b:Nat)(ha:a<9223372036854775808)(hb:b<9223372036854775808):YN .or .i64 a b=((a ||| b:Nat):Int):=MY .i64 a b ha hb
theorem OX(k:IntKind)(a n:Nat)(hn:n<=k.bits):XA k a n=((a >>> n:Nat):Int):=by
 simp only[XA,cu,cL hn];rw[Int.fdiv_eq_ediv_of_nonneg _ (Int.le_of_lt (Int.pow_pos nT)),Nat.shiftRight_eq_div_pow];simp
theorem CO(k:IntKind)(a n:Nat)(hn:n<=k.bits):Xo k a n=k.wrap ((a*2 ^ n:Nat):Int):=by
 simp only[Xo,cu,cL hn];simp
theorem CQ(a b:Nat):a ^^^ b=0↔a=b:=by
 constructor
 .intro h;have h2:a ^^^ b ^^^ b=0 ^^^ b:=by rw[h]
  rwa [Nat.xor_assoc,Nat.xor_self,Nat.xor_zero,Nat.zero_xor]at h2
 .intro h;subst h;exact Nat.xor_self a
theorem ad(a b:Nat):a ||| b=0↔a=0/\b=0:=by
 simp
open Go.ChangeShapes Go.WideShapes Go.ChangeAt Go.RowKit
def fit(P:aa)(h:Hp):Nat->O->List D->Prop
 | 0,_,_=>False
 | k+1,t,cs=>
  match P.underlying t with
  | some .bool=>∃b,cs=[ab b]
  | some (.int i)=>∃n,cs=[.int i n]/\(Lit.int i n).wf=true
  | some .string=>∃s,cs=[.string s]/\s.size<=reachBytes
  | some (.slice e)=>∃p len cap,cs=[Z p len cap]/\len<=cap/\cap*P.bytesOf e<=reachBytes /\
    (len≠0->P.cellsOf e≠0->∃b o,p=G ⟨b,o,U⟩/\b<h.size/\∀i,i<len->∃ds,(M ds)=P.cellsOf e/\JG h b (o+i*P.cellsOf e) ds/\fit P h k e ds)
  | some (.struct fs)=>(M cs)=P.cellsOf t/\∀f∈fs.toList,fit P h k f.type ((cs.drop f.offset).take (P.cellsOf f.type))
  | some (.array n e)=>(M cs)=P.cellsOf t/\∀i,i<n->fit P h k e ((cs.drop (i*P.cellsOf e)).take (P.cellsOf e))
  | _=>True
def CR(P:aa)(h:Hp)(k:Nat)(t:O)(v:D):Prop:=
 match ta P t with
 | some true=>∃cs:List D,v=aw cs.toArray/\fit P h k t cs
 | _=>fit P h k t [v]
def fitAll(P:aa)(h:Hp):List O->List D->Prop
 | [],[]=>True
 | t :: ts,v :: vs=>(∃k,CR P h k t v)/\fitAll P h ts vs
 | _,_=>False
theorem Ra{β:Type}{f:α->Option β}:∀{l:List α} {r:List β},l.mapM f=G r->(M r)=(M l)/\∀(i:Nat) (x:α) (y:β),l[i]? = G x->r[i]? = G y->f x=G y
 | [],r,h=>by
  simp only[cN,pure,Option.some.injEq]at h;subst h;exact⟨rfl,fun i x y hx _=>by simp at hx⟩
 | a :: l,r,h=>by
  rw[bG]at h
  cases ha:f a with
  | none=>rw[ha]at h;cases h
  | some b=>
   rw[ha]at h
   cases hl:l.mapM f with
   | none=>simp[hl]at h
   | some bs=>
    simp[hl]at h;subst h;obtain⟨h1,h2⟩:=Ra hl;refine⟨by simp[h1],fun i x y hx hy=>?_⟩
    cases i with
    | zero=>simp at hx hy;subst hx;subst hy;exact ha
    | succ i=>simp at hx hy;exact h2 i x y hx hy
theorem GA{w:al}{base:Nat}{ds:List D}(h:w.cells? base a n=G ds):(M ds)=n/\∀i (hi:i<(M ds)),w.cell? (a.add i)=G ds[i]:=by
 unfold World.cells? at h;split at h
 .obtain⟨h1,h2⟩:=Ra h;rw[b1]at h1;refine⟨h1,fun i hi=>h2 i i ds[i] ?_ ?_⟩
  .rw[bA nT]
  .exact a5 hi
 .cases h
theorem pA{w:al}(h:w.cell? (a.add i)=G v)(hi:i=0):a.spot=U:=by
 subst hi;have e:a.add 0=a:=by simp[Addr.add]
 rw[e]at h;unfold World.cell? at h;split at h
 .split at h
  .cases h
  .rename_i hs;simpa using hs
 .cases h
theorem Pz{H:Type}{q:Nat->Bool}:∀(ts:List O) (ds:List (DataW H)),(DataW.weightsEach P ts ds).all q=true->∀(i:Nat) (t:O) (d:DataW H),ts[i]? = G t->ds[i]? = G d->(d.weights P t).all q=true
 | [],_,_,i,t,d,ht,_=>by simp at ht
 | t :: ts,[],_,i,t',d,_,hd=>by simp at hd
 | t :: ts,d :: ds,h,i,t',d',ht,hd=>by
  simp only[DataW.weightsEach,bw,aq]at h
  cases i with
  | zero=>simp at ht hd;subst ht;subst hd;exact h.1
  | succ i=>simp at ht hd;exact Pz ts ds h.2 i t' d' ht hd
theorem Tp{H:Type}{q:Nat->Bool}:∀(ds:List (DataW H)),(DataW.weightsAll P e ds).all q=true->∀(i:Nat) (d:DataW H),ds[i]? = G d->(d.weights P e).all q=true
 | [],_,i,d,hd=>by simp at hd
 | d :: ds,h,i,d',hd=>by
  simp only[DataW.weightsAll,bw,aq]at h
  cases i with
  | zero=>simp at hd;subst hd;exact h.1
  | succ i=>simp at hd;exact Tp ds h.2 i d' hd
theorem Sc{H:Type}{enc:O × D->H}{w:al}:∀(k:Nat) (t:O) (cs:List D) (d:DataW H) (ps:List MemPlace),
  DataW.trod enc P w 0 (fun _=>true) true k t cs=G (d,ps)->(d.weights P t).all (· <= reachBytes)=true->fit P w.heap k t cs
 | 0,t,cs,d,ps,h,_=>by simp[DataW.trod]at h
 | k+1,t,cs,d,ps,h,hw=>by
  unfold DataW.trod at h;unfold fit;split at h
  .rename_i hu;rw[hu];exact⟨_,rfl⟩
  .rename_i i i' n hu;rw[hu];split at h
   .rename_i hc;obtain⟨rfl,hc⟩:=hc;exact⟨_,rfl,hc⟩
   .cases h
  .rename_i hu;rw[hu];trivial
  .rename_i s hu;rw[hu];split at h
   .simp only[Option.some.injEq,Prod.mk.injEq]at h;obtain⟨rfl,_⟩:=h;refine⟨_,rfl,?_⟩
    simpa [DataW.weights] using hw
   .cases h
  .rename_i hu;rw[hu];trivial
  .rename_i hu;rw[hu];trivial
  .rename_i e hu;rw[hu];exact⟨_,_,_,rfl,br _,uK,fun h=>(h rfl).elim⟩
  .rename_i e a len cap hu;rw[hu];split at h
   .rename_i MT;simp only[if_true]at h
    cases he:((bl len).mapM fun i=>(w.cells? 0 (a.add (i*P.cellsOf e)) (P.cellsOf e)).bind (DataW.trod enc P w 0 (fun _=>true) true k e)) with
    | none=>rw[he]at h;cases h
    | some elems=>
     rw[he]at h;simp only[am]at h
     cases hr:((bl (cap-len)).mapM fun j=>(w.cells? 0 (a.add ((len+j)*P.cellsOf e)) (P.cellsOf e)).bind (DataW.trod enc P w 0 (fun _=>true) true k e)) with
     | none=>rw[hr]at h;cases h
     | some rest=>
      rw[hr]at h;simp only[aU,Option.some.injEq,Prod.mk.injEq]at h;obtain⟨rfl,_⟩:=h;obtain⟨l1,g1⟩:=Ra he;obtain⟨l2,_⟩:=Ra hr;rw[b1]at l1 l2;simp only[DataW.weights,hu,bp,bw,aq,List.length_map,decide_eq_true_eq]at hw;refine⟨_,_,_,rfl,MT.2.1,?_,fun hlen hce=>?_⟩
      .have:(M elems)+(M rest)=cap:=nT;rw[<-this];exact hw.1
      .have ZjY:∀i,i<len->∃ds x,w.cells? 0 (a.add (i*P.cellsOf e)) (P.cellsOf e)=G ds/\elems[i]? = G x/\DataW.trod enc P w 0 (fun _=>true) true k e ds=G x:=by
        intro i hi;have hx:elems[i]? = G elems[i]:=a5 nT;have:=g1 i i elems[i] (by rw[bA hi]) hx
        cases hc:w.cells? 0 (a.add (i*P.cellsOf e)) (P.cellsOf e) with
        | none=>rw[hc]at this;cases this
        | some ds=>rw[hc]at this;exact⟨ds,_,rfl,hx,this⟩
       obtain⟨ds0,x0,lJ,_,_⟩:=ZjY 0 nT;obtain⟨q1,q2⟩:=GA lJ;have e0:a.add (0*P.cellsOf e)=a:=by simp[Addr.add]
       rw[e0]at q2;have NB:a.spot=U:=pA (q2 0 nT) rfl;have Zge:w.cell? a=G ds0[0]:=by have:=q2 0 nT;simpa [Addr.add] using this
       have ZS:a.block<w.heap.size:=Vj (h:=w.heap) (p:=a) (v:=ds0[0]) Zge;refine⟨a.block,a.off,?_,ZS,fun i hi=>?_⟩
       .obtain⟨b,o,s⟩:=a;simp only at NB;subst NB;rfl
       .obtain⟨ds,x,hc,hx,ht⟩:=ZjY i hi;obtain⟨r1,r2⟩:=GA hc;refine⟨ds,r1,fun j hj=>?_,?_⟩
        .have:=r2 j hj;rw[OS a _ NB,XL]at this;exact this
        .refine Sc k e ds x.1 x.2 ht ?_;exact Tp _ hw.2.1 i x.1 (by rw[bk,hx];rfl)
   .cases h
  .rename_i cs _ _ fs hu;rw[hu];split at h
   .rename_i hlen
    cases hm:(fs.toList.mapM fun f=>DataW.trod enc P w 0 (fun _=>true) true k f.type ((cs.drop f.offset).take (P.cellsOf f.type))) with
    | none=>rw[hm]at h;cases h
    | some xs=>
     rw[hm]at h;simp only[aU,Option.some.injEq,Prod.mk.injEq]at h;obtain⟨rfl,_⟩:=h;obtain⟨l1,g1⟩:=Ra hm;refine⟨hlen,fun f hf=>?_⟩;obtain⟨i,hi,AK⟩:=List.mem_iff_getElem.1 hf;have hx:xs[i]? = G xs[i]:=a5 nT;have ZjZ:fs.toList[i]? = G f:=by rw[a5 hi,AK]
     refine Sc k _ _ xs[i].1 xs[i].2 (g1 i f xs[i] ZjZ hx) ?_;simp only[DataW.weights,hu]at hw;exact Pz _ _ hw i f.type xs[i].1 (by rw[bk,ZjZ];rfl) (by rw[bk,hx];rfl)
   .cases h
  .rename_i cs _ _ n e hu;rw[hu];split at h
   .rename_i hlen
    cases hm:((bl n).mapM fun i=>DataW.trod enc P w 0 (fun _=>true) true k e ((cs.drop (i*P.cellsOf e)).take (P.cellsOf e))) with
    | none=>rw[hm]at h;cases h
    | some xs=>
     rw[hm]at h;simp only[aU,Option.some.injEq,Prod.mk.injEq]at h;obtain⟨rfl,_⟩:=h;obtain⟨l1,g1⟩:=Ra hm;rw[b1]at l1;refine⟨hlen,fun i hi=>?_⟩;have hx:xs[i]? = G xs[i]:=a5 nT;refine Sc k _ _ xs[i].1 xs[i].2 (g1 i i xs[i] (by rw[bA hi]) hx) ?_;simp only[DataW.weights,hu]at hw;exact Tp _ hw i xs[i].1 (by rw[bk,hx];rfl)
   .cases h
  all_goals first|(cases h;done)|(rename_i hu;rw[hu];trivial)
theorem Zcy{w:al}{r:Reach}{base:Nat}{cs:Array D}(ha:ta P t=G false)(h:Value.okWide P w r base t (aw cs)):False:=by
 unfold ta at ha;unfold Value.okWide at h
 cases hu:P.underlying t with
 | none=>rw[hu]at ha;cases ha
 | some d=>
  rw[hu]at ha h
  cases d<;>simp at ha<;>simp[Cell.okWide,Cell.ok,hu]at h
theorem Zcz{H:Type}{enc:O × D->H}{w:al}{r:Reach}{base:Nat}{d:DataW H}{ps:List MemPlace}(fy:(ta P t).isSome=true)(Uj:Value.okWide P w r base t v)(h:DataW.Trod enc P w 0 (fun _=>true) true t v d ps)(hw:(d.weights P t).all (· <= reachBytes)=true):∃k,CR P w.heap k t v:=by
 obtain⟨k,hk⟩:=h;have hf:=Sc k t _ d ps hk hw;refine⟨k,?_⟩;unfold CR
 cases ha:ta P t with
 | none=>rw[ha]at fy;cases fy
 | some b=>
  cases b with
  | true=>
   unfold ta at ha;unfold Value.okWide at Uj
   cases hu:P.underlying t with
   | none=>rw[hu]at ha;cases ha
   | some d'=>
    rw[hu]at ha Uj;have:∃cs,v=aw cs:=by
     cases d'<;>simp at ha<;>(obtain⟨cs,hv,_⟩:=Uj;exact⟨cs,hv⟩)
    obtain⟨cs,rfl⟩:=this;exact⟨cs.toList,uK,hf⟩
  | false=>
   have:v.cells.toList=[v]:=by
    cases v with
    | agg cs=>exact (Zcy ha Uj).elim
    | _=>rfl
   rw[this]at hf;exact hf
theorem Do{H:Type}{enc:O × D->H}{w:al}{base:Nat}:∀(ts:List O) (vs:List D) (ds:List (DataW H)) (ps:List MemPlace),
  ts.all (fun t=>(ta P t).isSome)=true->(∀(j:Nat) t v,ts[j]? = G t->vs[j]? = G v->Value.okWide P w .any base t v)->DataW.TrodAll enc P w 0 (fun _=>true) true ts vs ds ps ->
  (DataW.weightsEach P ts ds).all (· <= reachBytes)=true->fitAll P w.heap ts vs
 | [],vs,ds,ps,_,_,h,_=>by
  obtain⟨rfl,rfl,rfl⟩:=trodAll_nil h;trivial
 | t :: ts,vs,ds,ps,ha,hv,h,hw=>by
  obtain⟨v,vs',d,ds',p,q,rfl,rfl,rfl,h1,h2⟩:=trodAll_cons h;simp only[bp,aq]at ha;simp only[DataW.weightsEach,bw,aq]at hw;exact⟨Zcz ha.1 (hv 0 t v rfl rfl) h1 hw.1,Do ts vs' ds' q ha.2 (fun j t v ht ae=>hv (j+1) t v ht ae) h2 hw.2⟩
theorem NC{H:Type}{enc:O × D->H}(hl:laidOutB P=true){W W':al}(hb:Below W.heap.size W W'):∀(ts:List O) (vs:List D) (ds:List (DataW H)) (ps:List MemPlace),
  ts.all (fun t=>P.readableRec t&&decide (t<P.types.size))=true->DataW.TrodAll enc P W 0 (fun _=>true) true ts vs ds ps->(∀x∈ps,x.block<W.heap.size) ->
  DataW.TrodAll enc P W' 0 (fun b=>decide (b<W.heap.size)) true ts vs ds ps
 | [],vs,ds,ps,_,h,_=>by
  obtain⟨rfl,rfl,rfl⟩:=trodAll_nil h;rfl
 | t :: ts,vs,ds,ps,ha,h,ZS=>by
  obtain⟨v,vs',d,ds',p,q,rfl,rfl,rfl,h1,h2⟩:=trodAll_cons h;simp only[bp,aq,decide_eq_true_eq]at ha;exact⟨p,q,Below.trod hl ha.1.1 ha.1.2 h1 hb (fun x hx=>ZS x (by simp[hx])),NC hl hb ts vs' ds' q ha.2 h2 (fun x hx=>ZS x (by simp[hx])),rfl⟩
theorem Oc{H:Type}{enc:O × D->H}{w:al}{sp:Nat->Bool}{hd:Bool}:∀(ts:List O) (vs:List D) (ds:List (DataW H)) (ps:List MemPlace),DataW.TrodAll enc P w b sp hd ts vs ds ps->(M ds)=(M ts)
 | [],vs,ds,ps,h=>by obtain⟨rfl,rfl,rfl⟩:=trodAll_nil h;rfl
 | t :: ts,vs,ds,ps,h=>by
  obtain⟨v,vs',d,ds',p,q,rfl,rfl,rfl,h1,h2⟩:=trodAll_cons h;simp[Oc ts vs' ds' q h2]
theorem wq{W W':al}(hs:Sz W W' h')(hb:Zj W.heap.size W.heap h'):Below W.heap.size W W':=
 ⟨hs.os,hs.tape,hs.output,by rw[hs.heap];exact hb.size,fun k hk=>by rw[hs.heap];exact hb.block k hk⟩
theorem wu{rest:List (List Char)}(h:behindMainWord (wordsSigns P.initOrder.toList) = "cut".toList :: rest):P.make=G .cut:=by
 unfold Program.make;rw[h];simp only;rw[if_neg Iw,if_pos (by rfl)]
theorem Dp(rest:List (List Char)):stripLifts liftWords ("cut".toList :: rest)=([], "cut".toList :: rest):=by rfl
theorem pB{rest:List (List Char)}(h:behindMainWord (wordsSigns P.initOrder.toList) = "cut".toList :: rest):P.liftsFinal=false:=by
 unfold Program.liftsFinal Program.headLifts;rw[h,Dp];rfl
theorem pC{rest:List (List Char)}(h:behindMainWord (wordsSigns P.initOrder.toList) = "cut".toList :: rest)(h1:P.laysLater=false)(h2:P.bearsReflect=false)(h3:P.doorFits []=true):P.mayEnter=true:=by
 unfold Program.mayEnter;rw[h];simp only[Dp,h1,h2,h3];rw[Bool.or_eq_true];exact .inr rfl
theorem pD{L:List Char}(h:P.initOrder=String.ofList L)(h2:((behindMainWord (wordsSigns L)).head? == G "cut".toList)=true):∃rest,behindMainWord (wordsSigns P.initOrder.toList) = "cut".toList :: rest:=by
 rw[h,String.toList_ofList]
 revert h2
 cases behindMainWord (wordsSigns L) with
 | nil=>intro h;cases h
 | cons a l=>
  intro h;have h':a = "cut".toList:=by
   have:=eq_of_beq h
   simpa using this
  exact⟨l,by rw[h']⟩
attribute [go_sem ↓] reduceIte
end Go.V
