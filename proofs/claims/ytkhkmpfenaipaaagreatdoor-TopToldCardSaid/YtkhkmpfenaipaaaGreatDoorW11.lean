/- Part W11. -/
import Derived.Test.YtkhkmpfenaipaaaGreatDoorW8
open List renaming toArray→D
open Nat renaming eq_of_beq_eq_true→am,beq→aC
open Option renaming some→J,none→ak
open Array renaming setIfInBounds→m,getD_eq_getD_getElem?→U,replicate→aw
open Bool renaming and_eq_true→Y,not_eq_true'→aq,not_true→aF,false_or→aH
open Go.Region renaming ready→A,noSelect_spec→ae,binds→al,free_spec→an,free→ao,noSelect→ax
open Go renaming Program→G,TypeId→O,Value→Q,Operand→Z,World→aa
namespace Go.V
set_option linter.all false
inductive Tr where
 | nil
 | q (i:Nat) (t:Tr)
 | s (i:Nat) (t:Tr)
 | or (i:Nat) (t:Tr) (r:Tr)
def Tr.alts:Tr->List Nat
 | .s i _=>[i]
 | .or i _ r=>i :: r.alts
 | _=>[]
def Tr.ok(ops:Array Oper):Tr->Nat->Array Bool->Bool->Bool
 | .nil,n,listed,_=>aC n 0&&(A .any ops listed).isEmpty
 | .q _ _,0,_,_=>false
 | .q i t,n+1,listed,_=>((A .any ops listed).contains i&&ao .any ops listed i)&&t.ok ops n (m listed i true) true
 | .s _ _,0,_,_=>false
 | .s i t,n+1,listed,b=>(!b||(A .any ops listed == [i]))&&t.ok ops n (m listed i true) true
 | .or _ _ _,0,_,_=>false
 | .or i t r,n+1,listed,b=>(!b||(A .any ops listed == i :: r.alts))&&(t.ok ops n (m listed i true) true&&r.ok ops (n+1) listed false)
section
variable {P:G} {n:Nat} {T:aa} {N:Env->Hp->Prop} {X:Nat->Env->Hp->Prop} {R:Env->Hp->Prop} {F:Env} {h:Hp}
def zF(P:G)(T:aa)(ops:List Oper)(B:Nat)(h0:Hp)(N:Env->Hp->Prop):Tr->Env->Hp->Prop
 | .nil,F,h=>N F h
 | .q i t,F,h=>match nth ops i with
  | some ⟨d,op,ty,_,_,ak⟩=>RS P T B h0 op ty (fun v=>zF P T ops B h0 N t (Y5 F d v) h) F
  | some ⟨d,op,ty,_,_,J (j,b)⟩=>Qd (Vg ops F j) b (RS P T B h0 op ty (fun v=>zF P T ops B h0 N t (Y5 F d v) h) F) (zF P T ops B h0 N t (Y5 F d undef) h)
  | none=>False
 | .s i t,F,h=>match nth ops i with
  | some ⟨d,op,ty,_,_,ak⟩=>Sy P T op ty (fun v h'=>Zm B h0 h'/\zF P T ops B h0 N t (Y5 F d v) h') F h
  | some ⟨d,op,ty,_,_,J (j,b)⟩=>Qd (Vg ops F j) b (Sy P T op ty (fun v h'=>Zm B h0 h'/\zF P T ops B h0 N t (Y5 F d v) h') F h) (Zm B h0 h/\zF P T ops B h0 N t (Y5 F d undef) h)
  | none=>False
 | .or i t r,F,h=>(match nth ops i with
  | some ⟨d,op,ty,_,_,ak⟩=>Sy P T op ty (fun v h'=>Zm B h0 h'/\zF P T ops B h0 N t (Y5 F d v) h') F h
  | some ⟨d,op,ty,_,_,J (j,b)⟩=>Qd (Vg ops F j) b (Sy P T op ty (fun v h'=>Zm B h0 h'/\zF P T ops B h0 N t (Y5 F d v) h') F h) (Zm B h0 h/\zF P T ops B h0 N t (Y5 F d undef) h)
  | none=>False)/\zF P T ops B h0 N r F h
theorem Of{ops:List Oper}{i:Nat}{o:Oper}(h:nth ops i=J o):(D ops)[i]? = J o:=by
 rw[List.getElem?_toArray,<-X2];exact h
theorem lH{ops:List Oper}{B:Nat}{h0:Hp}{i:Nat}{K f:Env->Hp->Prop}(e:∀F h,K F h->f F h)(H:match nth ops i with
    | some ⟨d,op,ty,_,_,ak⟩=>Sy P T op ty (fun v h'=>Zm B h0 h'/\K (Y5 F d v) h') F h
    | some ⟨d,op,ty,_,_,J (j,b)⟩=>Qd (Vg ops F j) b (Sy P T op ty (fun v h'=>Zm B h0 h'/\K (Y5 F d v) h') F h) (Zm B h0 h/\K (Y5 F d undef) h)
    | none=>False):Tn P T (D ops) i (fun l h'=>Zm B h0 h'/\f l h') F h:=by
 unfold Tn
 cases a:nth ops i with
 | none=>grind
 | some o=>
  rw[Of a];rw[a]at H;let⟨d,op,ty,pos,Rj,g⟩:=o
  cases g with
  | none=>
   show (if Xv (D ops) _ F=true then _ else _);rw[if_pos (by rfl)];exact VF (fun v h' q=>⟨q.1,e _ _ q.2⟩) H
  | some k=>
   let⟨j,b⟩:=k;show (if Xv (D ops) _ F=true then _ else _);rcases Qp ops F d op pos Rj j b H with⟨hw,H⟩|⟨hw,H⟩
   .rw[if_pos hw];exact VF (fun v h' q=>⟨q.1,e _ _ q.2⟩) H
   grind
def tKs(P:G)(T:aa)(ops:List Oper)(B:Nat)(h0:Hp)(N:Env->Hp->Prop)(t:Tr)(F:Env)(d:Option Tmp):Q->Hp->Prop:=fun v h'=>Zm B h0 h'/\zF P T ops B h0 N t (Y5 F d v) h'
def tS(P:G)(T:aa)(ops:List Oper)(B:Nat)(h0:Hp)(N:Env->Hp->Prop)(t:Tr)(F:Env)(h:Hp)(o:Option Oper):Prop:=
 match o with
 | some ⟨d,op,ty,_,_,ak⟩=>Sy P T op ty (tKs P T ops B h0 N t F d) F h
 | some ⟨d,op,ty,_,_,J (j,b)⟩=>Qd (Vg ops F j) b (Sy P T op ty (tKs P T ops B h0 N t F d) F h) (Zm B h0 h/\zF P T ops B h0 N t (Y5 F d undef) h)
 | none=>False
variable {ops:List Oper} {B:Nat} {h0:Hp} {t r:Tr} {i j:Nat} {d:Option Tmp} {op:Op} {ty:O} {pos:String} {Rj:Array Edge} {b c:Bool} {v:Q}
end
section
variable {B:Nat} {h h':Hp} {o:Obj} {b:Nat}
@[go_sem] theorem ZmG:Zm B h h=True:=eq_true (Zm.refl _ _)
@[go_sem] theorem ZnV(a:Zm h.size h h'):Zm h.size h (h'.push o)=True:=eq_true (a.add _)
@[go_sem] theorem ZnW(a:Zm B h h')(hb:B<=b):Zm B h (m h' b o)=True:=eq_true (a.ZA hb _)
attribute [go_sem] Nat.le_add_right Nat.le_refl List.cons_append List.nil_append
@[go_sem] theorem ZnX(z:List Q):Ug 1 z=z:=by simp[Ug]
@[go_sem] theorem ZnY(z:List Q):Ug 2 z=z++z:=by simp[Ug]
end
theorem QY.ZnZ{α:Type}{enc:α->List Q}{n B:Nat}{E:O}{h:Hp}{v:Q}{l:List α}(q:∀x,(enc x).length=n)(g:n≠0)(s:QY B E enc n h v l):
  ∃p cap,v=.slice p (List.length l) cap/\(l≠[]->∃b o,p=J ⟨b,o,ak⟩/\B<=b/\b<h.size/\∀i (hi:i<(List.length l)),YU h b (o+i*n) (enc l[i])):=by
 let⟨p,cap,e,u⟩:=s.ts.open q g;refine⟨p,cap,e,fun k=>?_⟩;let⟨b,o,f,hb,hc⟩:=u k;refine⟨b,o,f,?_,hb,hc⟩;rcases s.Zn with⟨_,h0,_⟩|⟨y,z,ZT,w,a,_⟩
 .grind
 grind
theorem QY.one{α:Type}{enc:α->List Q}{n B:Nat}{E:O}{h:Hp}(x:α)(e:∀x,(enc x).length=n)(a:B<=h.size):QY B E enc n (h.push (.cells (enc x).toArray E)) (.slice (J ⟨h.size,0,ak⟩) 1 1) [x]:=by
 have:=QY.made (h:=h) (E:=E) (B:=B) e [x] a
 simpa [ZW] using this
section
variable {P:G} {n:Nat} {T:aa} {N:Env->Hp->Prop} {X:Nat->Env->Hp->Prop} {R:Env->Hp->Prop} {F:Env} {h:Hp}
def Vh(ops:Array Oper)(listed:Array Bool):Prop:=
 ∀(j:Nat) oj,ops[j]? = J oj->listed.getD j false=true->∀e∈oj.after,al .any e=true->listed.getD e.on false=true
theorem getD_set_true{l:Array Bool}{j k:Nat}(h:l.getD k false=true):(m l j true).getD k false=true:=by
 rw[U]at h ⊢
 grind
theorem Vh.set{ops:Array Oper}{listed:Array Bool}(c:Vh ops listed){j:Nat}(l:j∈A .any ops listed):Vh ops (m listed j true):=by
 intro k ok q f e p hb;let⟨_,s,g,u⟩:=mem_ready.1 l;by_cases a:j=k
 .grind [getD_set_true]
 .refine getD_set_true (c k ok q ?_ e p hb);rw[U,Array.getElem?_setIfInBounds,if_neg a]at f;rw[U];exact f
def Za8:Nat:=16
def ons(ops:Array Oper)(k:Nat):List Nat:=match ops[k]? with|some o=>(o.after.toList.filter fun e=>al .any e).map fun e=>e.on|none=>[]
def aA(ops:Array Oper):Nat->List Nat->List Nat
 | 0,M=>M
 | k+1,M=>aA ops k (if M.any (aC k)=true then ons ops k++M else M)
def Pc(ops:Array Oper)(f j i:Nat):Bool:=(aA ops j (ons ops j)).any (aC i)
theorem lI{ops:Array Oper}{k:Nat}{L:Nat->Prop}(h:∀o,ops[k]? = J o->∀e∈o.after,al .any e=true->L e.on):∀x∈ons ops k,L x:=by
 grind [ons]
theorem Ej{ops:Array Oper}{listed:Array Bool}(c:Vh ops listed):∀(k:Nat) (M:List Nat),(∀x∈M,listed.getD x false=true)->∀x∈aA ops k M,listed.getD x false=true:=by
 intro k
 induction k with
 | zero=>intro M f;exact f
 | succ k l=>
  intro M f;refine l _ ?_;split
  .rename_i s;let⟨y,p,g⟩:=List.any_eq_true.1 s;obtain rfl:=am g;intro x a;rcases List.mem_append.1 a with a|a
   .exact lI (L:=fun x=>listed.getD x false=true) (fun o q e g hb=>c _ o q (f _ p) e g hb) x a
   grind
  .exact f
theorem eY{ops:Array Oper}{listed:Array Bool}(c:Vh ops listed){i f j:Nat}(h:Pc ops f j i=true)(a:j∈A .any ops listed):listed.getD i false=true:=by
 let⟨_,o,e,g⟩:=mem_ready.1 a;unfold Pc at h
 grind [ons,Ej,am]
inductive zH where
 | nil
 | q (i:Nat) (t:zH)
 | s (i:Nat) (t:zH)
 | w (i:Nat) (t:zH)
 | or (i:Nat) (t:zH) (r:zH)
def zH.alts:zH->List Nat
 | .s i _=>[i]
 | .w i _=>[i]
 | .or i _ r=>i :: r.alts
 | _=>[]
def zH.Fc:zH->Bool
 | .q _ _=>true
 | .s _ t=>t.Fc
 | .or _ t r=>t.Fc||r.Fc
 | _=>false
def zH.ok(ops:Array Oper)(W:List Nat):zH->Nat->Array Bool->Bool->Bool
 | .nil,n,listed,_=>aC n 0&&(A .any ops listed).isEmpty
 | .q _ _,0,_,_=>false
 | .q i t,n+1,listed,_=>((A .any ops listed).contains i&&(ao .any ops listed i&&W.all fun j=>Pc ops Za8 j i))&&t.ok ops W n (m listed i true) true
 | .s _ _,0,_,_=>false
 | .s i t,n+1,listed,b=>(!b||(A .any ops listed == [i]))&&t.ok ops W n (m listed i true) true
 | .w _ _,0,_,_=>false
 | .w i t,n+1,listed,b=>((!b||(A .any ops listed == [i]))&&(W.contains i&&!t.Fc))&&t.ok ops W n (m listed i true) true
 | .or _ _ _,0,_,_=>false
 | .or i t r,n+1,listed,b=>(!b||(A .any ops listed == i :: r.alts))&&(t.ok ops W n (m listed i true) true&&r.ok ops W (n+1) listed false)
def wKs(B:Nat)(h0:Hp)(K:Env->Hp->Prop)(F:Env)(d:Option Tmp):Q->Hp->Prop:=fun v h'=>Zm B h0 h'/\K (Y5 F d v) h'
def wKw(K:Env->Hp->Prop)(F:Env)(d:Option Tmp):Q->Hp->Prop:=fun v h'=>K (Y5 F d v) h'
def wQg(P:G)(T:aa)(B:Nat)(h0:Hp)(K:Env->Hp->Prop)(F:Env)(h:Hp)(d:Option Tmp)(op:Op)(ty:O)(v:Q)(b:Bool):Prop:=Qd v b (RS P T B h0 op ty (fun v=>K (Y5 F d v) h) F) (K (Y5 F d undef) h)
def wQ(P:G)(T:aa)(ops:List Oper)(B:Nat)(h0:Hp)(K:Env->Hp->Prop)(F:Env)(h:Hp)(o:Option Oper):Prop:=
 match o with
 | some ⟨d,op,ty,_,_,ak⟩=>RS P T B h0 op ty (fun v=>K (Y5 F d v) h) F
 | some ⟨d,op,ty,_,_,J (j,b)⟩=>wQg P T B h0 K F h d op ty (Vg ops F j) b
 | none=>False
def wSg(P:G)(T:aa)(B:Nat)(h0:Hp)(K:Env->Hp->Prop)(F:Env)(h:Hp)(d:Option Tmp)(op:Op)(ty:O)(v:Q)(b:Bool):Prop:=Qd v b (Sy P T op ty (wKs B h0 K F d) F h) (Zm B h0 h/\K (Y5 F d undef) h)
def wS(P:G)(T:aa)(ops:List Oper)(B:Nat)(h0:Hp)(K:Env->Hp->Prop)(F:Env)(h:Hp)(o:Option Oper):Prop:=
 match o with
 | some ⟨d,op,ty,_,_,ak⟩=>Sy P T op ty (wKs B h0 K F d) F h
 | some ⟨d,op,ty,_,_,J (j,b)⟩=>wSg P T B h0 K F h d op ty (Vg ops F j) b
 | none=>False
def wWg(P:G)(T:aa)(K:Env->Hp->Prop)(F:Env)(h:Hp)(d:Option Tmp)(op:Op)(ty:O)(v:Q)(b:Bool):Prop:=Qd v b (Sy P T op ty (wKw K F d) F h) (K (Y5 F d undef) h)
def wW(P:G)(T:aa)(ops:List Oper)(K:Env->Hp->Prop)(F:Env)(h:Hp)(o:Option Oper):Prop:=
 match o with
 | some ⟨d,op,ty,_,_,ak⟩=>Sy P T op ty (wKw K F d) F h
 | some ⟨d,op,ty,_,_,J (j,b)⟩=>wWg P T K F h d op ty (Vg ops F j) b
 | none=>False
theorem fa{ops:List Oper}{B:Nat}{h0:Hp}{i:Nat}{K e:Env->Hp->Prop}(f:∀F h,K F h->e F h)(H:wS P T ops B h0 K F h (nth ops i)):Tn P T (D ops) i (fun k h'=>Zm B h0 h'/\e k h') F h:=by
 refine lH (K:=K) f ?_
 cases a:nth ops i with
 | none=>rw[a]at H;exact H.elim
 | some o=>
  rw[a]at H;let⟨d,op,ty,pos,Rj,g⟩:=o
  cases g with
  | none=>exact H
  | some l=>exact H
theorem Za9{ops:List Oper}{i:Nat}{K f:Env->Hp->Prop}(e:∀F h,K F h->f F h)(H:wW P T ops K F h (nth ops i)):Tn P T (D ops) i f F h:=by
 unfold Tn
 cases a:nth ops i with
 | none=>rw[a]at H;exact H.elim
 | some o=>
  rw[Of a];rw[a]at H;let⟨d,op,ty,pos,Rj,g⟩:=o
  cases g with
  | none=>
   show (if Xv (D ops) _ F=true then _ else _);rw[if_pos (by rfl)];exact VF (fun v h' q=>e _ _ q) H
  | some k=>
   let⟨j,b⟩:=k;show (if Xv (D ops) _ F=true then _ else _);rcases Qp ops F d op pos Rj j b H with⟨hw,H⟩|⟨hw,H⟩
   .rw[if_pos hw];exact VF (fun v h' q=>e _ _ q) H
   grind
theorem fe(ops:Array Oper)(n:Nat):Vh ops (aw n false):=by
 intro j e _ a;rw[U]at a
 grind
variable {ops:List Oper} {B:Nat} {h0:Hp} {t r:zH} {i j:Nat} {d:Option Tmp} {op:Op} {ty:O} {pos:String} {Rj:Array Edge} {b c:Bool} {v:Q} {K:Env->Hp->Prop}
def wKq(K:Env->Hp->Prop)(F:Env)(d:Option Tmp)(h:Hp):Q->Prop:=fun v=>K (Y5 F d v) h
@[go_sem] theorem Zn4:wQ P T ops B h0 K F h (J ⟨d,op,ty,pos,Rj,ak⟩)=RS P T B h0 op ty (wKq K F d h) F:=rfl
@[go_sem] theorem Zn5:wQ P T ops B h0 K F h (J ⟨d,op,ty,pos,Rj,J (j,b)⟩)=wQg P T B h0 K F h d op ty (Vg ops F j) b:=rfl
@[go_sem] theorem Zn6:wS P T ops B h0 K F h (J ⟨d,op,ty,pos,Rj,ak⟩)=Sy P T op ty (wKs B h0 K F d) F h:=rfl
@[go_sem] theorem Zn7:wS P T ops B h0 K F h (J ⟨d,op,ty,pos,Rj,J (j,b)⟩)=wSg P T B h0 K F h d op ty (Vg ops F j) b:=rfl
@[go_sem] theorem Zn8:wW P T ops K F h (J ⟨d,op,ty,pos,Rj,ak⟩)=Sy P T op ty (wKw K F d) F h:=rfl
@[go_sem] theorem Zn9:wW P T ops K F h (J ⟨d,op,ty,pos,Rj,J (j,b)⟩)=wWg P T K F h d op ty (Vg ops F j) b:=rfl
@[go_sem] theorem Zoa:wQg P T B h0 K F h d op ty (.bool c) b=if c=b then RS P T B h0 op ty (wKq K F d h) F else K (Y5 F d undef) h:=rfl
@[go_sem] theorem Zob:wSg P T B h0 K F h d op ty (.bool c) b=if c=b then Sy P T op ty (wKs B h0 K F d) F h else (Zm B h0 h/\K (Y5 F d undef) h):=rfl
@[go_sem] theorem Zoc:wWg P T K F h d op ty (.bool c) b=if c=b then Sy P T op ty (wKw K F d) F h else K (Y5 F d undef) h:=rfl
@[go_sem] theorem Zr3:wKq K F d h v=K (Y5 F d v) h:=rfl
@[go_sem] theorem Zr4:wKs B h0 K F d v h=(Zm B h0 h/\K (Y5 F d v) h):=rfl
@[go_sem] theorem Zr5:wKw K F d v h=K (Y5 F d v) h:=rfl
end
end Go.V
namespace Go.V
set_option linter.all false
section
variable {P:G} {n:Nat} {T:aa} {N:Env->Hp->Prop} {X:Nat->Env->Hp->Prop} {R:Env->Hp->Prop} {F:Env} {h:Hp}
def OI(P:G)(T:aa)(ops:Array Oper)(S:Hp->Prop)(W:List Nat)(N:Env->Hp->Prop):Nat->Array Bool->Env->Hp->Prop
 | 0,listed,F,h=>A .any ops listed=[]/\N F h
 | k+1,listed,F,h=>(A .any ops listed=[]->N F h) /\
   ∀i∈A .any ops listed,Tn P T ops i (fun a h'=>(i∈W\/(S h->S h'))/\OI P T ops S W N k (m listed i true) a h') F h
theorem CF{ops:Array Oper}{S:Hp->Prop}{W:List Nat}:∀(k:Nat) (listed:Array Bool) (F:Env) (h:Hp),OI P T ops S W N k listed F h->ul P T ops (fun _=>True) N k listed F h:=by
 intro k
 induction k with
 | zero=>intro listed F h H;exact H
 | succ k a=>intro listed F h H;exact⟨H.1,fun i hi=>TF (fun e h' q=>⟨trivial,a _ _ _ q.2⟩) (H.2 i hi)⟩
theorem SN{ops:Array Oper}{S S1:Hp->Prop}{W:List Nat}{i:Nat}{u:Oper}{v:Q}(hi:ops[i]? = J u)(y:∀(j:Nat) (o:Oper) cs b,ops[j]? = J o->o.op ≠ .select cs b)(M:(∀h,S1 h)\/((∀h,S h->S1 h)/\∀j∈W,∃f,Pc ops f j i=true)):
  ∀(k:Nat) (listed:Array Bool) (F:Env) (h:Hp),Vh ops listed ->
   (∀j a,ops[j]? = J a->j≠i->listed.getD j true=false->(∀e∈a.after,al .any e=true->e.on≠i)->u.apart ops a=true) ->
   i∈A .any ops listed->UK P T ops S1 u v F->((∀h,S1 h)\/S h) ->
   OI P T ops S W N k (m listed i true) (Y5 F u.dst v) h->OI P T ops S W N (k+1) listed F h:=by
 intro k
 induction k with
 | zero=>
  intro listed F h _ _ hr z hS H;have l:S1 h:=hS.elim (fun q=>q h) (fun q=>M.elim (fun p=>p h) (fun p=>p.1 h q));refine⟨fun h=>zK,fun j x=>?_⟩;by_cases s:j=i
  .subst s;exact z.opI hi l ⟨.inr id,H⟩
  .have:=ready_mono x s;rw[H.1]at this
   cases this
 | succ k ih=>
  intro listed F h Ri dE hr z hS H;have l:S1 h:=hS.elim (fun q=>q h) (fun q=>M.elim (fun p=>p h) (fun p=>p.1 h q));refine⟨fun h=>zK,fun j x=>?_⟩;by_cases s:j=i
  .subst s;exact z.opI hi l ⟨.inr id,H⟩
  .have h1:=H.2 j (ready_mono x s);let⟨L,a,g,QV⟩:=mem_ready.1 x;have j4:∀e∈a.after,al .any e=true->e.on≠i:=fun e he hb heq=>by
    grind [Go.mem_ready]
   have h2:=dD g (dE j a g s L j4) (fun cs b=>y i u cs b hi) (fun cs b=>y j a cs b g) z h1;have j5:∀k ok,ops[k]? = J ok->k≠i->(m listed j true).getD k true=false ->
     (∀e∈ok.after,al .any e=true->e.on≠i)->u.apart ops ok=true:=fun k ok hk qA w E=>by
    refine dE k ok hk qA ?_ E;by_cases I:j=k
    .grind
    .rw[getD_set_ne true I]at w;exact w
   refine TF (fun F' h' V=>?_) h2;refine⟨V.2.1,ih (m listed j true) F' h' (Ri.set x) j5 (ready_mono hr (Ne.symm s)) V.1 ?_ ?_⟩
   .grind [eY,Go.mem_ready]
   grind [Array.setIfInBounds_comm]
inductive Tz where
 | nil
 | p (i:Nat) (t:Tz)
 | q (i:Nat) (t:Tz)
 | s (i:Nat) (t:Tz)
 | w (i:Nat) (t:Tz)
 | or (i:Nat) (t:Tz) (r:Tz)
def Tz.alts:Tz->List Nat
 | .s i _=>[i]
 | .w i _=>[i]
 | .or i _ r=>i :: r.alts
 | _=>[]
def Tz.Fc:Tz->Bool
 | .q _ _=>true
 | .p _ t=>t.Fc
 | .s _ t=>t.Fc
 | .or _ t r=>t.Fc||r.Fc
 | _=>false
def Tz.ok(ops:Array Oper)(W:List Nat):Tz->Nat->Array Bool->Bool->Bool
 | .nil,n,listed,_=>aC n 0&&(A .any ops listed).isEmpty
 | .p _ _,0,_,_=>false
 | .p i t,n+1,listed,_=>((A .any ops listed).contains i&&ao .any ops listed i)&&t.ok ops W n (m listed i true) true
 | .q _ _,0,_,_=>false
 | .q i t,n+1,listed,_=>((A .any ops listed).contains i&&(ao .any ops listed i&&W.all fun j=>Pc ops Za8 j i))&&t.ok ops W n (m listed i true) true
 | .s _ _,0,_,_=>false
 | .s i t,n+1,listed,b=>(!b||(A .any ops listed == [i]))&&t.ok ops W n (m listed i true) true
 | .w _ _,0,_,_=>false
 | .w i t,n+1,listed,b=>((!b||(A .any ops listed == [i]))&&(W.contains i&&!t.Fc))&&t.ok ops W n (m listed i true) true
 | .or _ _ _,0,_,_=>false
 | .or i t r,n+1,listed,b=>(!b||(A .any ops listed == i :: r.alts))&&(t.ok ops W n (m listed i true) true&&r.ok ops W (n+1) listed false)
def BA(P:G)(T:aa)(ops:Array Oper)(S:Hp->Prop)(N:Env->Hp->Prop):Tz->Env->Hp->Prop
 | .nil,F,h=>N F h
 | .p i t,F,h=>match ops[i]? with
  | some o=>if Xv ops o F then ∃v,(∀h',Bj P T o (fun e f=>e=v/\f=h') F h')/\BA P T ops S N t (Y5 F o.dst v) h else BA P T ops S N t (Y5 F o.dst undef) h
  | none=>False
 | .q i t,F,h=>match ops[i]? with
  | some o=>if Xv ops o F then ∃v,(∀h',S h'->Bj P T o (fun e f=>e=v/\f=h') F h')/\BA P T ops S N t (Y5 F o.dst v) h else BA P T ops S N t (Y5 F o.dst undef) h
  | none=>False
 | .s i t,F,h=>Tn P T ops i (fun a h'=>S h'/\BA P T ops S N t a h') F h
 | .w i t,F,h=>Tn P T ops i (fun a h'=>BA P T ops S N t a h') F h
 | .or i t r,F,h=>Tn P T ops i (fun a h'=>S h'/\BA P T ops S N t a h') F h/\BA P T ops S N r F h
theorem aB{ops:Array Oper}{S:Hp->Prop}{W:List Nat}(L:ax ops=true):∀(t:Tz),
  (∀(k:Nat) (listed:Array Bool) (F:Env) (h:Hp),Vh ops listed->t.ok ops W k listed true=true->(t.Fc=true->S h)->BA P T ops S N t F h->OI P T ops S W N k listed F h) /\
  (∀(k:Nat) (listed:Array Bool) (F:Env) (h:Hp),Vh ops listed->t.ok ops W (k+1) listed false=true->BA P T ops S N t F h->∀j∈t.alts,j∈A .any ops listed->Tn P T ops j (fun z h'=>(j∈W\/(S h->S h'))/\OI P T ops S W N k (m listed j true) z h') F h):=by
 intro t
 induction t with
 | nil=>
  grind [Tz.ok,BA,OI,am]
 | p i t y=>
  refine⟨fun k listed F h g a hS H=>?_,fun k listed F h _ _ _ j l=>by cases l⟩
  cases k with
  | zero=>simp[Tz.ok]at a
  | succ k=>
   simp only[Tz.ok,Y]at a;let⟨⟨h1,I⟩,h3⟩:=a;have u:i∈A .any ops listed:=by simpa using h1
   let⟨_,o,x,_⟩:=mem_ready.1 u;simp only[BA,x]at H;split at H
   .rename_i E;let⟨v,V,H⟩:=H;exact SN (S1:=fun _=>True) x (ae L) (.inl fun _=>trivial) k listed F h g (an x I) u (.inl ⟨E,fun h' _=>V h'⟩) (.inl fun _=>trivial) (y.1 k _ _ _ (g.set u) h3 hS H)
   .rename_i E;exact SN (S1:=fun _=>True) x (ae L) (.inl fun _=>trivial) k listed F h g (an x I) u (.inr ⟨zK,rfl⟩) (.inl fun _=>trivial) (y.1 k _ _ _ (g.set u) h3 hS H)
 | q i t y=>
  refine⟨fun k listed F h g a hS H=>?_,fun k listed F h _ _ _ j l=>by cases l⟩;have hS:=hS rfl
  cases k with
  | zero=>simp[Tz.ok]at a
  | succ k=>
   simp only[Tz.ok,Y]at a;let⟨⟨h1,I,hw⟩,h3⟩:=a;have u:i∈A .any ops listed:=by simpa using h1
   let⟨_,o,x,_⟩:=mem_ready.1 u;have hW:∀j∈W,∃f,Pc ops f j i=true:=fun j l=>⟨Za8,List.all_eq_true.1 hw j l⟩
   simp only[BA,x]at H;split at H
   .rename_i E;let⟨v,V,H⟩:=H;exact SN x (ae L) (.inr ⟨fun _ q=>q,hW⟩) k listed F h g (an x I) u (.inl ⟨E,V⟩) (.inr hS) (y.1 k _ _ _ (g.set u) h3 (fun _=>hS) H)
   .rename_i E;exact SN x (ae L) (.inr ⟨fun _ q=>q,hW⟩) k listed F h g (an x I) u (.inr ⟨zK,rfl⟩) (.inr hS) (y.1 k _ _ _ (g.set u) h3 (fun _=>hS) H)
 | s i t y=>
  have second:∀(k:Nat) (listed:Array Bool) (F:Env) (h:Hp),Vh ops listed->i∈A .any ops listed->t.ok ops W k (m listed i true) true=true->BA P T ops S N (.s i t) F h->Tn P T ops i (fun z h'=>(i∈W\/(S h->S h'))/\OI P T ops S W N k (m listed i true) z h') F h:=by
   intro k listed F h g u a H;exact TF (fun z h' q=>⟨.inr fun _=>q.1,y.1 k _ _ _ (g.set u) a (fun _=>q.1) q.2⟩) H
  refine⟨fun k listed F h g a hS H=>?_,fun k listed F h g a H j l hr=>?_⟩
  .cases k with
   | zero=>simp[Tz.ok]at a
   | succ k=>
    simp only[Tz.ok,Y,aF,aH,beq_iff_eq]at a;refine⟨fun h0=>zK,fun j l=>?_⟩
    grind
  .simp only[Tz.ok,Y]at a;have l:j=i:=by simpa [Tz.alts] using l
   grind
 | w i t y=>
  have second:∀(k:Nat) (listed:Array Bool) (F:Env) (h:Hp),Vh ops listed->i∈A .any ops listed->i∈W->t.Fc=false->t.ok ops W k (m listed i true) true=true->BA P T ops S N (.w i t) F h->Tn P T ops i (fun z h'=>(i∈W\/(S h->S h'))/\OI P T ops S W N k (m listed i true) z h') F h:=by
   intro k listed F h g u hw hq a H;exact TF (fun z h' q=>⟨.inl hw,y.1 k _ _ _ (g.set u) a (fun e=>by grind) q⟩) H
  refine⟨fun k listed F h g a hS H=>?_,fun k listed F h g a H j l hr=>?_⟩
  .cases k with
   | zero=>simp[Tz.ok]at a
   | succ k=>
    simp only[Tz.ok,Y,aF,aH,beq_iff_eq,aq]at a
    grind [OI]
  .simp only[Tz.ok,Y,aq]at a
   grind [Tz.alts]
 | or i t r a0 M=>
  have second:∀(k:Nat) (listed:Array Bool) (F:Env) (h:Hp),Vh ops listed->t.ok ops W k (m listed i true) true=true->r.ok ops W (k+1) listed false=true->BA P T ops S N (.or i t r) F h->∀j∈(Tz.or i t r).alts,j∈A .any ops listed->Tn P T ops j (fun z h'=>(j∈W\/(S h->S h'))/\OI P T ops S W N k (m listed j true) z h') F h:=by
   intro k listed F h g a hR H j l hr;rcases List.mem_cons.1 l with l|l
   .grind [BA,TF,Vh.set]
   .exact M.2 k listed F h g hR H.2 j l hr
  refine⟨fun k listed F h g a hS H=>?_,fun k listed F h g a H j l hr=>?_⟩
  .cases k with
   | zero=>simp[Tz.ok]at a
   | succ k=>
    grind [OI,Tz.alts,Tz.ok]
  grind [Tz.ok]
def dk(P:G)(T:aa)(op:Op)(ty:O)(C:Q->Prop)(F:Env):Prop:=
 match op with
 | .load _ _=>False
 | op=>RS P T 0 #[] op ty C F
theorem BC{op:Op}{ty:O}{C:Q->Prop}(H:dk P T op ty C F):∃v,(∀h',Sy P T op ty (fun a e=>a=v/\e=h') F h')/\C v:=by
 cases op<;>first|exact H|exact H.elim
def zPg(P:G)(T:aa)(K:Env->Hp->Prop)(F:Env)(h:Hp)(d:Option Tmp)(op:Op)(ty:O)(v:Q)(b:Bool):Prop:=Qd v b (dk P T op ty (fun v=>K (Y5 F d v) h) F) (K (Y5 F d undef) h)
def zP(P:G)(T:aa)(ops:List Oper)(K:Env->Hp->Prop)(F:Env)(h:Hp)(o:Option Oper):Prop:=
 match o with
 | some ⟨d,op,ty,_,_,ak⟩=>dk P T op ty (fun v=>K (Y5 F d v) h) F
 | some ⟨d,op,ty,_,_,J (j,b)⟩=>zPg P T K F h d op ty (Vg ops F j) b
 | none=>False
def Cl(P:G)(T:aa)(ops:List Oper)(B:Nat)(h0:Hp)(N:Env->Hp->Prop):Tz->Env->Hp->Prop
 | .nil,F,h=>N F h
 | .p i t,F,h=>zP P T ops (Cl P T ops B h0 N t) F h (nth ops i)
 | .q i t,F,h=>wQ P T ops B h0 (Cl P T ops B h0 N t) F h (nth ops i)
 | .s i t,F,h=>wS P T ops B h0 (Cl P T ops B h0 N t) F h (nth ops i)
 | .w i t,F,h=>wW P T ops (Cl P T ops B h0 N t) F h (nth ops i)
 | .or i t r,F,h=>wS P T ops B h0 (Cl P T ops B h0 N t) F h (nth ops i)/\Cl P T ops B h0 N r F h
theorem lJ{ops:List Oper}{B:Nat}{h0:Hp}{N:Env->Hp->Prop}:∀(t:Tz) (F:Env) (h:Hp),Cl P T ops B h0 N t F h->BA P T (D ops) (fun h'=>Zm B h0 h') N t F h:=by
 intro t
 induction t with
 | nil=>intro F h H;exact H
 | p i t a=>
  intro F h H;simp only[Cl]at H;simp only[BA]
  cases e:nth ops i with
  | none=>rw[e]at H;exact H.elim
  | some o=>
   rw[Of e];rw[e]at H;let⟨d,op,ty,pos,Rj,g⟩:=o
   cases g with
   | none=>
    show (if Xv (D ops) _ F=true then _ else _);rw[if_pos (by rfl)];let⟨v,u,H⟩:=BC H;exact⟨v,fun h'=>TH (u h'),a _ _ H⟩
   | some f=>
    let⟨j,b⟩:=f;show (if Xv (D ops) _ F=true then _ else _);rcases Qp ops F d op pos Rj j b H with⟨hw,H⟩|⟨hw,H⟩
    .rw[if_pos hw]
     grind [BC,TH]
    grind
 | q i t a=>
  intro F h H;simp only[Cl]at H;simp only[BA]
  cases e:nth ops i with
  | none=>rw[e]at H;exact H.elim
  | some o=>
   rw[Of e];rw[e]at H;let⟨d,op,ty,pos,Rj,g⟩:=o
   cases g with
   | none=>
    show (if Xv (D ops) _ F=true then _ else _);rw[if_pos (by rfl)];let⟨v,u,H⟩:=Bz H;exact⟨v,fun h' x=>TH (u h' x),a _ _ H⟩
   | some f=>
    let⟨j,b⟩:=f;show (if Xv (D ops) _ F=true then _ else _);rcases Qp ops F d op pos Rj j b H with⟨hw,H⟩|⟨hw,H⟩
    .rw[if_pos hw]
     grind [Bz,TH]
    grind
 | s i t a=>intro F h H;exact fa a H
 | w i t a=>intro F h H;exact Za9 a H
 | or i t r k l=>intro F h H;exact⟨fa k H.1,l _ _ H.2⟩
def Zod(n:Nat)(ops:Array Oper)(W:List Nat)(t:Tz):Bool:=FU n ops&&(ax ops&&t.ok ops W ops.size (aw ops.size false) true)
theorem VS.z{id:Nat}{ops:List Oper}(B:Nat)(W:List Nat)(t:Tz)(p:P.follows .mixedOrders=true)(f:Zod n (D ops) W t=true)(H:Cl P T ops B h N t F h):VS P n T (.region id (D ops) true) N X R F h:=by
 intro a w u s q e;simp only[Zod,Y]at f;let⟨l,k,g⟩:=f;refine wp_region_any p ?_;refine UZ l _ _ F h (CF _ _ _ _ ((aB (S:=fun h'=>Zm B h h') k t).1 _ _ F h (fe _ _) g (fun _=>Zm.refl _ _) (lJ t F h H))) a _ u s q ⟨e.heap,e.tape,e.os,e.output⟩
variable {ops:List Oper} {B:Nat} {h0:Hp} {t r:Tz} {i j:Nat} {d:Option Tmp} {op:Op} {ty:O} {pos:String} {Rj:Array Edge} {b c:Bool} {v:Q} {K:Env->Hp->Prop} {C:Q->Prop}
@[go_sem] theorem Zr6:Cl P T ops B h0 N .nil F h=N F h:=rfl
@[go_sem] theorem ZBH:Cl P T ops B h0 N (.p i t) F h=zP P T ops (Cl P T ops B h0 N t) F h (nth ops i):=rfl
@[go_sem] theorem ZBI:Cl P T ops B h0 N (.q i t) F h=wQ P T ops B h0 (Cl P T ops B h0 N t) F h (nth ops i):=rfl
@[go_sem] theorem ZBJ:Cl P T ops B h0 N (.s i t) F h=wS P T ops B h0 (Cl P T ops B h0 N t) F h (nth ops i):=rfl
@[go_sem] theorem ZBK:Cl P T ops B h0 N (.w i t) F h=wW P T ops (Cl P T ops B h0 N t) F h (nth ops i):=rfl
@[go_sem] theorem Zvd:Cl P T ops B h0 N (.or i t r) F h=(wS P T ops B h0 (Cl P T ops B h0 N t) F h (nth ops i)/\Cl P T ops B h0 N r F h):=rfl
@[go_sem] theorem Zoe:zP P T ops K F h (J ⟨d,op,ty,pos,Rj,ak⟩)=dk P T op ty (wKq K F d h) F:=rfl
@[go_sem] theorem Zof:zP P T ops K F h (J ⟨d,op,ty,pos,Rj,J (j,b)⟩)=zPg P T K F h d op ty (Vg ops F j) b:=rfl
@[go_sem] theorem Zog:zPg P T K F h d op ty (.bool c) b=if c=b then dk P T op ty (wKq K F d h) F else K (Y5 F d undef) h:=rfl
@[go_sem] theorem Zoh{x:Z}:dk P T (.move x) ty C F=RS P T 0 #[] (.move x) ty C F:=rfl
@[go_sem] theorem ZjZ{x:Z}:dk P T (.assign x) ty C F=RS P T 0 #[] (.assign x) ty C F:=rfl
@[go_sem] theorem ZmH{t:O}{x:Z}{i:Nat}:dk P T (.fieldAddr t x i) ty C F=RS P T 0 #[] (.fieldAddr t x i) ty C F:=rfl
@[go_sem] theorem Zve{t:O}{x i:Z}:dk P T (.indexAddr t x i) ty C F=RS P T 0 #[] (.indexAddr t x i) ty C F:=rfl
@[go_sem] theorem Zoi{x y z:Z}:dk P T (.pick x y z) ty C F=RS P T 0 #[] (.pick x y z) ty C F:=rfl
@[go_sem] theorem Zr7{x:Z}:dk P T (.nilCheck x) ty C F=RS P T 0 #[] (.nilCheck x) ty C F:=rfl
@[go_sem] theorem Zr8{op:BinOp}{t a:O}{x y:Z}:dk P T (.binOp op t x y a) ty C F=RS P T 0 #[] (.binOp op t x y a) ty C F:=rfl
@[go_sem] theorem Zvf{op:UnOp}{t:O}{x:Z}:dk P T (.unOp op t x) ty C F=RS P T 0 #[] (.unOp op t x) ty C F:=rfl
@[go_sem] theorem Zoj{s t:O}{x:Z}:dk P T (.convert s t x) ty C F=RS P T 0 #[] (.convert s t x) ty C F:=rfl
@[go_sem] theorem ZiO{x:Z}{i:Nat}:dk P T (.extract x i) ty C F=RS P T 0 #[] (.extract x i) ty C F:=rfl
@[go_sem] theorem Zr9{t:O}{x:Z}{lo hi a:Option Z}:dk P T (.slice t x lo hi a) ty C F=RS P T 0 #[] (.slice t x lo hi a) ty C F:=rfl
@[go_sem] theorem ZmI{t:O}{parts:Array (Nat × Z)}:dk P T (.build t parts) ty C F=RS P T 0 #[] (.build t parts) ty C F:=rfl
@[go_sem] theorem Zok{c:Call}:dk P T (.call c) ty C F=RS P T 0 #[] (.call c) ty C F:=rfl
end
end Go.V
