/- Part W29. -/
import Derived.Test.YtdapjaalaomghaaGreatDoorW21
import Derived.Sort.Grow
import Derived.Deep.Draws
import Derived.Lib.UnsafeStr
import Derived.RangeFuncRecord
import Derived.OrdersIn
import Derived.TacticsIn
open Go.Value renaming int→M,slice→O,bool→Z
open Go.IntKind renaming i64→D
open Go.Obj renaming cells→a5
open List renaming length→J,length_append→ao,getElem?_toArray→aq,getElem?_cons_succ→a4,eq_nil_of_length_eq_zero→a7,append_assoc→a8,all_eq_true→a9,length_cons→ba,getElem?_cons_zero→bb,size_toArray→br,length_drop→bw,mem_cons→bG
open Nat renaming le_refl→a2,mul_le_mul_right→bd,lt_of_lt_of_le→bk,zero_add→bp,add_zero→bt
open Option renaming bind_some→aU,some→A,none→U
open Array renaming getElem?_setIfInBounds→am,size_setIfInBounds→aw,getElem?_eq_none→bc,length_toList→be,ext_getElem?→bh
open Bool renaming and_eq_true→ab,not_true→bf,false_or→bg,false_eq_true→bl,not_eq_true'→bo,not_false→bA
open Go.Builtin renaming zeroCells→al,append_→a0,clear_→bC
open Go.Region renaming ready→Y,noSelect_spec→a1,free_spec→a6,binds→bn,noSelect→bx,free→bP
open Go renaming Value→G,TypeId→L,Program→aa,Operand→ae,World→a3
namespace Go.V
set_option linter.all false
variable{b:Nat}{t:L}{x y:ae}
section
variable {P:aa} {T:a3} {ty:L} {F:Env} {h:Hp} {K:G->Hp->Prop}
def It(P:aa)(t:L)(m x:G)(c:Bool)(K:G->Hp->Prop)(h:Hp):Prop:=hw P (Instr.lookup t m x c) K h
def wZ(P:aa)(t:L)(K:G->Hp->Prop)(h:Hp):Prop:=hw P (Instr.makeMap t U) K h
@[go_sem] theorem ig{m:ae}{c:Bool}:Sb P T (.lookup t m x c) ty K F h=It P t (ev F m) (ev F x) c K h:=by
 show hw P (do pure (Next.value (<-Instr.lookup t (ev F m) (ev F x) c))) (Jt P T K) h=_;rw[Zk];rfl
@[go_sem] theorem au:Sb P T (.makeMap t U) ty K F h=wZ P t K h:=by
 show hw P (do pure (Next.value (<-Instr.makeMap t U))) (Jt P T K) h=_;rw[Zk];rfl
@[go_sem] theorem Zgq{m:ae}{c:Bool}:Ew P T ⟨U,.lookup t m x c,ty, "", #[],U⟩ K F h=It P t (ev F m) (ev F x) c K h:=ig
@[go_sem] theorem Ze1:Ew P T ⟨U,.makeMap t U,ty, "", #[],U⟩ K F h=wZ P t K h:=au
@[go_sem] theorem ZkE:wZ P t K h=K (.map (A h.size)) (h.push (.map #[] 0)):=rfl
variable {α:Type} [DecidableEq α] {enc:α->List G}
theorem Du{e:L}{v:G}(hz:(P.info? e).bind (·.zero)=A v){Q:G->Hp->Prop}:hw P (zeroValue e) Q h=Q v h:=by
 cases hi:P.info? e with
 | none=>rw[hi]at hz;cases hz
 | some i=>
  rw[hi]at hz;unfold zeroValue;rw[Zk,X1 hi];have hz:i.zero=A v:=hz;simp only[hz];rfl
theorem Mg{es:Array MapEntry}{c:Nat}(hm:h[b]? = A (.map es c)){Q:Obj->Hp->Prop}:hw P (getObj b) Q h↔Q (.map es c) h:=
 ⟨fun⟨o,h1,_,h2⟩=>(by rw[hm]at h1;cases h1;exact h2),fun H=>⟨_,hm,rfl,H⟩⟩
end
section
variable {P:aa} {n:Nat} {T:a3} {N:Env->Hp->Prop} {X:Nat->Env->Hp->Prop} {R:Env->Hp->Prop} {F:Env} {h:Hp}
def Le(P:aa)(T:a3)(ops:Array Oper)(S:Hp->Prop)(W:List Nat)(N:Env->Hp->Prop):Nat->Array Bool->Env->Hp->Prop
 | 0,listed,F,h=>Y .any ops listed=[]/\N F h
 | k+1,listed,F,h=>(Y .any ops listed=[]->N F h) /\
   ∀i∈Y .any ops listed,Ut P T ops i (fun F' h'=>(i∈W\/(S h->S h'))/\Le P T ops S W N k (listed.setIfInBounds i true) F' h') F h
theorem EL{ops:Array Oper}{S:Hp->Prop}{W:List Nat}:∀(k:Nat) (listed:Array Bool) (F:Env) (h:Hp),Le P T ops S W N k listed F h->fN P T ops (fun _=>True) N k listed F h:=by
 intro k
 induction k with
 | zero=>intro listed F h H;exact H
 | succ k ih=>intro listed F h H;exact⟨H.1,fun i hi=>J8 (fun F' h' q=>⟨trivial,ih _ _ _ q.2⟩) (H.2 i hi)⟩
theorem Sg{ops:Array Oper}{S S1:Hp->Prop}{W:List Nat}{i:Nat}{oi:Oper}{v:G}(hi:ops[i]? = A oi)(AE:∀(j:Nat) (o:Oper) cs b,ops[j]? = A o->o.op ≠ .select cs b)(hW:(∀h,S1 h)\/((∀h,S h->S1 h)/\∀j∈W,∃f,Vm ops f j i=true)):
  ∀(k:Nat) (listed:Array Bool) (F:Env) (h:Hp),QH ops listed ->
   (∀j oj,ops[j]? = A oj->j≠i->listed.getD j true=false->(∀e∈oj.after,bn .any e=true->e.on≠i)->oi.apart ops oj=true) ->
   i∈Y .any ops listed->Wj P T ops S1 oi v F->((∀h,S1 h)\/S h) ->
   Le P T ops S W N k (listed.setIfInBounds i true) (YB F oi.dst v) h->Le P T ops S W N (k+1) listed F h:=by
 intro k
 induction k with
 | zero=>
  intro listed F h _ _ hr hy hS H;have hS1:S1 h:=hS.elim (fun q=>q h) (fun q=>hW.elim (fun p=>p h) (fun p=>p.1 h q));refine⟨fun h=>(by rw[h]at hr;cases hr),fun j hj=>?_⟩;by_cases Sa:j=i
  .subst Sa;exact hy.opI hi hS1 ⟨.inr id,H⟩
  .have:=ready_mono hj Sa;rw[H.1]at this
   cases this
 | succ k ih=>
  intro listed F h JS Il hr hy hS H;have hS1:S1 h:=hS.elim (fun q=>q h) (fun q=>hW.elim (fun p=>p h) (fun p=>p.1 h q));refine⟨fun h=>(by rw[h]at hr;cases hr),fun j hj=>?_⟩;by_cases Sa:j=i
  .subst Sa;exact hy.opI hi hS1 ⟨.inr id,H⟩
  .have h1:=H.2 j (ready_mono hj Sa);obtain⟨AF,oj,nW,Jc⟩:=mem_ready.1 hj;have Cx:∀e∈oj.after,bn .any e=true->e.on≠i:=fun e he hb heq=>by
    have h1:=Jc e he hb;have h0:=(mem_ready.1 hr).1;rw[heq]at h1;rcases Nat.lt_or_ge i listed.size with h'|h'
    .simp[h']at h0 h1;rw[h0]at h1;cases h1
    .simp[bc h']at h1
   have h2:=Ge nW (Il j oj nW Sa AF Cx) (fun cs b=>AE i oi cs b hi) (fun cs b=>AE j oj cs b nW) hy h1;have Gg:∀k ok,ops[k]? = A ok->k≠i->(listed.setIfInBounds j true).getD k true=false ->
     (∀e∈ok.after,bn .any e=true->e.on≠i)->oi.apart ops ok=true:=fun k ok hk hki hun AG=>by
    refine Il k ok hk hki ?_ AG;by_cases kZ:j=k
    .subst kZ;exact AF
    .rw[getD_set_ne true kZ]at hun;exact hun
   refine J8 (fun F' h' h3=>?_) h2;refine⟨h3.2.1,ih (listed.setIfInBounds j true) F' h' (JS.set hj) Gg (ready_mono hr (Ne.symm Sa)) h3.1 ?_ ?_⟩
   .rcases hW with hW|⟨hW1,hW2⟩
    .exact .inl hW
    .rcases hS with hS|hS
     .exact .inl hS
     .rcases h3.2.1 with hjw|hss
      .obtain⟨f,hf⟩:=hW2 j hjw;have h1:=Ip JS hf hj;have h0:=(mem_ready.1 hr).1;rcases Nat.lt_or_ge i listed.size with h'|h'
       .simp[h']at h0 h1;rw[h0]at h1;cases h1
       .simp[bc h']at h1
      .exact .inr (hss hS)
   .rw[Array.setIfInBounds_comm _ _ Sa];exact h3.2.2
inductive Tz where
 | nil
 | p (i:Nat) (t:Tz)
 | q (i:Nat) (t:Tz)
 | s (i:Nat) (t:Tz)
 | w (i:Nat) (t:Tz)
 | or (i:Nat) (t:Tz) (r:Tz)
def Tz.alts:Tz->List Nat
 | .s i _=>[i]
 | .w i _=>[i]
 | .or i _ r=>i :: r.alts
 | _=>[]
def Tz.Lb:Tz->Bool
 | .q _ _=>true
 | .p _ t=>t.Lb
 | .s _ t=>t.Lb
 | .or _ t r=>t.Lb||r.Lb
 | _=>false
def Tz.ok(ops:Array Oper)(W:List Nat):Tz->Nat->Array Bool->Bool->Bool
 | .nil,n,listed,_=>Nat.beq n 0&&(Y .any ops listed).isEmpty
 | .p _ _,0,_,_=>false
 | .p i t,n+1,listed,_=>((Y .any ops listed).contains i&&bP .any ops listed i)&&t.ok ops W n (listed.setIfInBounds i true) true
 | .q _ _,0,_,_=>false
 | .q i t,n+1,listed,_=>((Y .any ops listed).contains i&&(bP .any ops listed i&&W.all fun j=>Vm ops lK j i))&&t.ok ops W n (listed.setIfInBounds i true) true
 | .s _ _,0,_,_=>false
 | .s i t,n+1,listed,b=>(!b||(Y .any ops listed == [i]))&&t.ok ops W n (listed.setIfInBounds i true) true
 | .w _ _,0,_,_=>false
 | .w i t,n+1,listed,b=>((!b||(Y .any ops listed == [i]))&&(W.contains i&&!t.Lb))&&t.ok ops W n (listed.setIfInBounds i true) true
 | .or _ _ _,0,_,_=>false
 | .or i t r,n+1,listed,b=>(!b||(Y .any ops listed == i :: r.alts))&&(t.ok ops W n (listed.setIfInBounds i true) true&&r.ok ops W (n+1) listed false)
def Ax(P:aa)(T:a3)(ops:Array Oper)(S:Hp->Prop)(N:Env->Hp->Prop):Tz->Env->Hp->Prop
 | .nil,F,h=>N F h
 | .p i t,F,h=>match ops[i]? with
  | some o=>if YI ops o F then ∃v,(∀h',Ew P T o (fun v' Kg=>v'=v/\Kg=h') F h')/\Ax P T ops S N t (YB F o.dst v) h else Ax P T ops S N t (YB F o.dst undef) h
  | none=>False
 | .q i t,F,h=>match ops[i]? with
  | some o=>if YI ops o F then ∃v,(∀h',S h'->Ew P T o (fun v' Kg=>v'=v/\Kg=h') F h')/\Ax P T ops S N t (YB F o.dst v) h else Ax P T ops S N t (YB F o.dst undef) h
  | none=>False
 | .s i t,F,h=>Ut P T ops i (fun F' h'=>S h'/\Ax P T ops S N t F' h') F h
 | .w i t,F,h=>Ut P T ops i (fun F' h'=>Ax P T ops S N t F' h') F h
 | .or i t r,F,h=>Ut P T ops i (fun F' h'=>S h'/\Ax P T ops S N t F' h') F h/\Ax P T ops S N r F h
theorem C9{ops:Array Oper}{S:Hp->Prop}{W:List Nat}(hs:bx ops=true):∀(t:Tz),
  (∀(k:Nat) (listed:Array Bool) (F:Env) (h:Hp),QH ops listed->t.ok ops W k listed true=true->(t.Lb=true->S h)->Ax P T ops S N t F h->Le P T ops S W N k listed F h) /\
  (∀(k:Nat) (listed:Array Bool) (F:Env) (h:Hp),QH ops listed->t.ok ops W (k+1) listed false=true->Ax P T ops S N t F h->∀j∈t.alts,j∈Y .any ops listed->Ut P T ops j (fun F' h'=>(j∈W\/(S h->S h'))/\Le P T ops S W N k (listed.setIfInBounds j true) F' h') F h):=by
 intro t
 induction t with
 | nil=>
  refine⟨fun k listed F h JS hB hS H=>?_,fun k listed F h _ _ _ j hj=>by cases hj⟩;simp only[Tz.ok,ab,List.isEmpty_iff]at hB;obtain⟨h1,h2⟩:=hB;obtain rfl:=Nat.eq_of_beq_eq_true h1;exact⟨h2,H⟩
 | p i t ih=>
  refine⟨fun k listed F h JS hB hS H=>?_,fun k listed F h _ _ _ j hj=>by cases hj⟩
  cases k with
  | zero=>simp[Tz.ok]at hB
  | succ k=>
   simp only[Tz.ok,ab]at hB;obtain⟨⟨h1,h2⟩,h3⟩:=hB;have NX:i∈Y .any ops listed:=by simpa using h1
   obtain⟨_,o,ho,_⟩:=mem_ready.1 NX;simp only[Ax,ho]at H;split at H
   .rename_i Gd;obtain⟨v,hv,H⟩:=H;exact Sg (S1:=fun _=>True) ho (a1 hs) (.inl fun _=>trivial) k listed F h JS (a6 ho h2) NX (.inl ⟨Gd,fun h' _=>hv h'⟩) (.inl fun _=>trivial) (ih.1 k _ _ _ (JS.set NX) h3 hS H)
   .rename_i Gd;exact Sg (S1:=fun _=>True) ho (a1 hs) (.inl fun _=>trivial) k listed F h JS (a6 ho h2) NX (.inr ⟨by simpa using Gd,rfl⟩) (.inl fun _=>trivial) (ih.1 k _ _ _ (JS.set NX) h3 hS H)
 | q i t ih=>
  refine⟨fun k listed F h JS hB hS H=>?_,fun k listed F h _ _ _ j hj=>by cases hj⟩;have hS:=hS rfl
  cases k with
  | zero=>simp[Tz.ok]at hB
  | succ k=>
   simp only[Tz.ok,ab]at hB;obtain⟨⟨h1,h2,hw⟩,h3⟩:=hB;have NX:i∈Y .any ops listed:=by simpa using h1
   obtain⟨_,o,ho,_⟩:=mem_ready.1 NX;have hW:∀j∈W,∃f,Vm ops f j i=true:=fun j hj=>⟨lK,a9.1 hw j hj⟩
   simp only[Ax,ho]at H;split at H
   .rename_i Gd;obtain⟨v,hv,H⟩:=H;exact Sg ho (a1 hs) (.inr ⟨fun _ q=>q,hW⟩) k listed F h JS (a6 ho h2) NX (.inl ⟨Gd,hv⟩) (.inr hS) (ih.1 k _ _ _ (JS.set NX) h3 (fun _=>hS) H)
   .rename_i Gd;exact Sg ho (a1 hs) (.inr ⟨fun _ q=>q,hW⟩) k listed F h JS (a6 ho h2) NX (.inr ⟨by simpa using Gd,rfl⟩) (.inr hS) (ih.1 k _ _ _ (JS.set NX) h3 (fun _=>hS) H)
 | s i t ih=>
  have second:∀(k:Nat) (listed:Array Bool) (F:Env) (h:Hp),QH ops listed->i∈Y .any ops listed->t.ok ops W k (listed.setIfInBounds i true) true=true->Ax P T ops S N (.s i t) F h->Ut P T ops i (fun F' h'=>(i∈W\/(S h->S h'))/\Le P T ops S W N k (listed.setIfInBounds i true) F' h') F h:=by
   intro k listed F h JS NX hB H;exact J8 (fun F' h' q=>⟨.inr fun _=>q.1,ih.1 k _ _ _ (JS.set NX) hB (fun _=>q.1) q.2⟩) H
  refine⟨fun k listed F h JS hB hS H=>?_,fun k listed F h JS hB H j hj hr=>?_⟩
  .cases k with
   | zero=>simp[Tz.ok]at hB
   | succ k=>
    simp only[Tz.ok,ab,bf,bg,beq_iff_eq]at hB;refine⟨fun h0=>(by rw[hB.1]at h0;cases h0),fun j hj=>?_⟩;have hr:=hj;rw[hB.1]at hj;have hj:j=i:=by simpa using hj
    subst hj;exact second k listed F h JS hr hB.2 H
  .simp only[Tz.ok,ab]at hB;have hj:j=i:=by simpa [Tz.alts] using hj
   subst hj;exact second k listed F h JS hr hB.2 H
 | w i t ih=>
  have second:∀(k:Nat) (listed:Array Bool) (F:Env) (h:Hp),QH ops listed->i∈Y .any ops listed->i∈W->t.Lb=false->t.ok ops W k (listed.setIfInBounds i true) true=true->Ax P T ops S N (.w i t) F h->Ut P T ops i (fun F' h'=>(i∈W\/(S h->S h'))/\Le P T ops S W N k (listed.setIfInBounds i true) F' h') F h:=by
   intro k listed F h JS NX hw hq hB H;exact J8 (fun F' h' q=>⟨.inl hw,ih.1 k _ _ _ (JS.set NX) hB (fun e=>by rw[hq]at e;cases e) q⟩) H
  refine⟨fun k listed F h JS hB hS H=>?_,fun k listed F h JS hB H j hj hr=>?_⟩
  .cases k with
   | zero=>simp[Tz.ok]at hB
   | succ k=>
    simp only[Tz.ok,ab,bf,bg,beq_iff_eq,bo]at hB;obtain⟨⟨h1,h2,h3⟩,h4⟩:=hB;refine⟨fun h0=>(by rw[h1]at h0;cases h0),fun j hj=>?_⟩;have hr:=hj;rw[h1]at hj;have hj:j=i:=by simpa using hj
    subst hj;exact second k listed F h JS hr (by simpa using h2) h3 h4 H
  .simp only[Tz.ok,ab,bo]at hB;obtain⟨⟨h1,h2,h3⟩,h4⟩:=hB;have hj:j=i:=by simpa [Tz.alts] using hj
   subst hj;exact second k listed F h JS hr (by simpa using h2) h3 h4 H
 | or i t r iht ihr=>
  have second:∀(k:Nat) (listed:Array Bool) (F:Env) (h:Hp),QH ops listed->t.ok ops W k (listed.setIfInBounds i true) true=true->r.ok ops W (k+1) listed false=true->Ax P T ops S N (.or i t r) F h->∀j∈(Tz.or i t r).alts,j∈Y .any ops listed->Ut P T ops j (fun F' h'=>(j∈W\/(S h->S h'))/\Le P T ops S W N k (listed.setIfInBounds j true) F' h') F h:=by
   intro k listed F h JS hB hR H j hj hr;rcases bG.1 hj with hj|hj
   .subst hj;exact J8 (fun F' h' q=>⟨.inr fun _=>q.1,iht.1 k _ _ _ (JS.set hr) hB (fun _=>q.1) q.2⟩) H.1
   .exact ihr.2 k listed F h JS hR H.2 j hj hr
  refine⟨fun k listed F h JS hB hS H=>?_,fun k listed F h JS hB H j hj hr=>?_⟩
  .cases k with
   | zero=>simp[Tz.ok]at hB
   | succ k=>
    simp only[Tz.ok,ab,bf,bg,beq_iff_eq]at hB;refine⟨fun h0=>(by rw[hB.1]at h0;cases h0),fun j hj=>?_⟩;have hr:=hj;rw[hB.1]at hj;exact second k listed F h JS hB.2.1 hB.2.2 H j hj hr
  .simp only[Tz.ok,ab]at hB;exact second k listed F h JS hB.2.1 hB.2.2 H j hj hr
def av(P:aa)(T:a3)(op:Op)(ty:L)(C:G->Prop)(F:Env):Prop:=
 match op with
 | .load _ _=>False
 | op=>S4 P T 0 #[] op ty C F
theorem Dv{op:Op}{ty:L}{C:G->Prop}(H:av P T op ty C F):∃v,(∀h',Sb P T op ty (fun v' Kg=>v'=v/\Kg=h') F h')/\C v:=by
 cases op<;>first|exact H|exact H.elim
def zPg(P:aa)(T:a3)(K:Env->Hp->Prop)(F:Env)(h:Hp)(d:Option Tmp)(op:Op)(ty:L)(v:G)(b:Bool):Prop:=JL v b (av P T op ty (fun v=>K (YB F d v) h) F) (K (YB F d undef) h)
def zP(P:aa)(T:a3)(ops:List Oper)(K:Env->Hp->Prop)(F:Env)(h:Hp)(o:Option Oper):Prop:=
 match o with
 | some ⟨d,op,ty,_,_,U⟩=>av P T op ty (fun v=>K (YB F d v) h) F
 | some ⟨d,op,ty,_,_,A (j,b)⟩=>zPg P T K F h d op ty (WC ops F j) b
 | none=>False
def Et(P:aa)(T:a3)(ops:List Oper)(B:Nat)(h0:Hp)(N:Env->Hp->Prop):Tz->Env->Hp->Prop
 | .nil,F,h=>N F h
 | .p i t,F,h=>zP P T ops (Et P T ops B h0 N t) F h (nth ops i)
 | .q i t,F,h=>wQ P T ops B h0 (Et P T ops B h0 N t) F h (nth ops i)
 | .s i t,F,h=>wS P T ops B h0 (Et P T ops B h0 N t) F h (nth ops i)
 | .w i t,F,h=>wW P T ops (Et P T ops B h0 N t) F h (nth ops i)
 | .or i t r,F,h=>wS P T ops B h0 (Et P T ops B h0 N t) F h (nth ops i)/\Et P T ops B h0 N r F h
theorem ii{ops:List Oper}{B:Nat}{h0:Hp}{N:Env->Hp->Prop}:∀(t:Tz) (F:Env) (h:Hp),Et P T ops B h0 N t F h->Ax P T ops.toArray (fun h'=>Zj B h0 h') N t F h:=by
 intro t
 induction t with
 | nil=>intro F h H;exact H
 | p i t ih=>
  intro F h H;simp only[Et]at H;simp only[Ax]
  cases ho:nth ops i with
  | none=>rw[ho]at H;exact H.elim
  | some o=>
   rw[Tt ho];rw[ho]at H;obtain⟨d,op,ty,pos,Vi,g⟩:=o
   cases g with
   | none=>
    show (if YI ops.toArray _ F=true then _ else _);rw[if_pos (by rfl)];obtain⟨v,hv,H⟩:=Dv H;exact⟨v,fun h'=>QG (hv h'),ih _ _ H⟩
   | some jb=>
    obtain⟨j,b⟩:=jb;show (if YI ops.toArray _ F=true then _ else _);rcases XK ops F d op pos Vi j b H with⟨hw,H⟩|⟨hw,H⟩
    .rw[if_pos hw];obtain⟨v,hv,H⟩:=Dv H;exact⟨v,fun h'=>QG (hv h'),ih _ _ H⟩
    .rw[hw,if_neg uK];exact ih _ _ H
 | q i t ih=>
  intro F h H;simp only[Et]at H;simp only[Ax]
  cases ho:nth ops i with
  | none=>rw[ho]at H;exact H.elim
  | some o=>
   rw[Tt ho];rw[ho]at H;obtain⟨d,op,ty,pos,Vi,g⟩:=o
   cases g with
   | none=>
    show (if YI ops.toArray _ F=true then _ else _);rw[if_pos (by rfl)];obtain⟨v,hv,H⟩:=Td H;exact⟨v,fun h' hs=>QG (hv h' hs),ih _ _ H⟩
   | some jb=>
    obtain⟨j,b⟩:=jb;show (if YI ops.toArray _ F=true then _ else _);rcases XK ops F d op pos Vi j b H with⟨hw,H⟩|⟨hw,H⟩
    .rw[if_pos hw];obtain⟨v,hv,H⟩:=Td H;exact⟨v,fun h' hs=>QG (hv h' hs),ih _ _ H⟩
    .rw[hw,if_neg uK];exact ih _ _ H
 | s i t ih=>intro F h H;exact Lc ih H
 | w i t ih=>intro F h H;exact ak ih H
 | or i t r iht ihr=>intro F h H;exact⟨Lc iht H.1,ihr _ _ H.2⟩
def ZkG(n:Nat)(ops:Array Oper)(W:List Nat)(t:Tz):Bool:=Ii n ops&&(bx ops&&t.ok ops W ops.size (Array.replicate ops.size false) true)
theorem VS.z{id:Nat}{ops:List Oper}(B:Nat)(W:List Nat)(t:Tz)(hm:P.follows .mixedOrders=true)(Uj:ZkG n ops.toArray W t=true)(H:Et P T ops B h N t F h):VS P n T (.region id ops.toArray true) N X R F h:=by
 intro a w h1 h2 h3 h4;simp only[ZkG,ab]at Uj;obtain⟨k1,k2,k3⟩:=Uj;refine wp_region_any hm ?_;refine QF k1 _ _ F h (EL _ _ _ _ ((C9 (S:=fun h'=>Zj B h h') k2 t).1 _ _ F h (Ir _ _) k3 (fun _=>Zj.refl _ _) (ii t F h H))) a _ h1 h2 h3 ⟨h4.heap,h4.tape,h4.os,h4.output⟩
variable {ops:List Oper} {B:Nat} {h0:Hp} {t r:Tz} {i j:Nat} {d:Option Tmp} {op:Op} {ty:L} {pos:String} {Vi:Array Edge} {b c:Bool} {v:G} {K:Env->Hp->Prop} {C:G->Prop}
@[go_sem] theorem Zn5:Et P T ops B h0 N .nil F h=N F h:=rfl
@[go_sem] theorem Zxe:Et P T ops B h0 N (.p i t) F h=zP P T ops (Et P T ops B h0 N t) F h (nth ops i):=rfl
@[go_sem] theorem Zxf:Et P T ops B h0 N (.q i t) F h=wQ P T ops B h0 (Et P T ops B h0 N t) F h (nth ops i):=rfl
@[go_sem] theorem Zxg:Et P T ops B h0 N (.s i t) F h=wS P T ops B h0 (Et P T ops B h0 N t) F h (nth ops i):=rfl
@[go_sem] theorem Zxh:Et P T ops B h0 N (.w i t) F h=wW P T ops (Et P T ops B h0 N t) F h (nth ops i):=rfl
@[go_sem] theorem Zrb:Et P T ops B h0 N (.or i t r) F h=(wS P T ops B h0 (Et P T ops B h0 N t) F h (nth ops i)/\Et P T ops B h0 N r F h):=rfl
@[go_sem] theorem ZkH:zP P T ops K F h (A ⟨d,op,ty,pos,Vi,U⟩)=av P T op ty (wKq K F d h) F:=rfl
@[go_sem] theorem ZkI:zP P T ops K F h (A ⟨d,op,ty,pos,Vi,A (j,b)⟩)=zPg P T K F h d op ty (WC ops F j) b:=rfl
@[go_sem] theorem ZkJ:zPg P T K F h d op ty (Z c) b=if c=b then av P T op ty (wKq K F d h) F else K (YB F d undef) h:=rfl
@[go_sem] theorem ZkK:av P T (.move x) ty C F=S4 P T 0 #[] (.move x) ty C F:=rfl
@[go_sem] theorem Zgs:av P T (.assign x) ty C F=S4 P T 0 #[] (.assign x) ty C F:=rfl
@[go_sem] theorem Zi7{t:L}{x:ae}{i:Nat}:av P T (.fieldAddr t x i) ty C F=S4 P T 0 #[] (.fieldAddr t x i) ty C F:=rfl
@[go_sem] theorem Zrc{t:L}{x i:ae}:av P T (.indexAddr t x i) ty C F=S4 P T 0 #[] (.indexAddr t x i) ty C F:=rfl
@[go_sem] theorem ZkL{z:ae}:av P T (.pick x y z) ty C F=S4 P T 0 #[] (.pick x y z) ty C F:=rfl
@[go_sem] theorem Zn6:av P T (.nilCheck x) ty C F=S4 P T 0 #[] (.nilCheck x) ty C F:=rfl
@[go_sem] theorem Zn7{op:BinOp}{t t':L}{x y:ae}:av P T (.binOp op t x y t') ty C F=S4 P T 0 #[] (.binOp op t x y t') ty C F:=rfl
@[go_sem] theorem Zrd{op:UnOp}{t:L}{x:ae}:av P T (.unOp op t x) ty C F=S4 P T 0 #[] (.unOp op t x) ty C F:=rfl
@[go_sem] theorem Ze2{i:Nat}:av P T (.extract x i) ty C F=S4 P T 0 #[] (.extract x i) ty C F:=rfl
@[go_sem] theorem Zn8{t:L}{x:ae}{lo hi mx:Option ae}:av P T (.slice t x lo hi mx) ty C F=S4 P T 0 #[] (.slice t x lo hi mx) ty C F:=rfl
@[go_sem] theorem Zi8{t:L}{parts:Array (Nat × ae)}:av P T (.build t parts) ty C F=S4 P T 0 #[] (.build t parts) ty C F:=rfl
@[go_sem] theorem ZkM{c:Call}:av P T (.call c) ty C F=S4 P T 0 #[] (.call c) ty C F:=rfl
end
def Yg{β:Type}:List (Int × β)->Int->Option β
 | [],_=>U
 | (a,v) :: r,k=>if a=k then A v else Yg r k
def ins{β:Type}:List (Int × β)->Int->β->List (Int × β)
 | [],k,v=>[(k,v)]
 | (a,x) :: r,k,v=>if a=k then (a,v) :: r else (a,x) :: ins r k v
def VC{β γ:Type}(f:β->γ)(l:List (Int × β)):List (Int × γ):=l.map fun x=>(x.1,f x.2)
theorem Jl{β γ:Type}(f:β->γ):∀(l:List (Int × β)) (k:Int),Yg (VC f l) k=(Yg l k).map f:=by
 intro l k
 induction l with
 | nil=>rfl
 | cons x l ih=>
  obtain⟨a,v⟩:=x;show (if a=k then A (f v) else Yg (VC f l) k)=Option.map f (if a=k then A v else Yg l k);rw[ih];split<;>rfl
theorem Of{β γ:Type}(f:β->γ):∀(l:List (Int × β)) (k:Int) (v:β),VC f (ins l k v)=ins (VC f l) k (f v):=by
 intro l k v
 induction l with
 | nil=>rfl
 | cons x l ih=>
  obtain⟨a,u⟩:=x;show VC f (if a=k then (a,v) :: l else (a,u) :: ins l k v)=if a=k then (a,f v) :: VC f l else (a,f u) :: ins (VC f l) k (f v)
  split
  .rfl
  .rw[<-ih];rfl
theorem Iu{β γ:Type}(f:β->γ)(l:List (Int × β)):(VC f l).length=(J l):=List.length_map ..
theorem Mh{β:Type}:∀(l:List (Int × β)) (k:Int) (v:β),(ins l k v).length=if (Yg l k).isSome=true then (J l) else (J l)+1:=by
 intro l k v
 induction l with
 | nil=>rfl
 | cons x l ih=>
  obtain⟨a,u⟩:=x;unfold ins Yg;by_cases h:a=k
  .rw[if_pos h,if_pos h];rfl
  .rw[if_neg h,if_neg h,ba,ih,ba];split<;>rfl
theorem Xb{β:Type}:∀(l:List (Int × β)) (k j:Int) (v:β),Yg (ins l k v) j=if k=j then A v else Yg l j:=by
 intro l k j v
 induction l with
 | nil=>rfl
 | cons x l ih=>
  obtain⟨a,u⟩:=x;unfold ins;by_cases h:a=k
  .subst h;rw[if_pos rfl];unfold Yg;by_cases hj:a=j
   .rw[if_pos hj,if_pos hj]
   .rw[if_neg hj,if_neg hj,if_neg hj]
  .rw[if_neg h];show (if a=j then A u else Yg (ins l k v) j)=if k=j then A v else if a=j then A u else Yg l j
   rw[ih];by_cases hj:a=j
   .rw[if_pos hj,if_pos hj,if_neg (fun e=>h (hj.trans e.symm))]
   .rw[if_neg hj,if_neg hj]
theorem xd{β:Type}{l:List (Int × β)}{k:Int}(h:Yg l k=U):∀x∈l,x.1≠k:=by
 induction l with
 | nil=>intro x hx;cases hx
 | cons y l ih=>
  obtain⟨a,u⟩:=y;unfold Yg at h;split at h
  .cases h
  .rename_i Y4;intro x hx;rcases bG.1 hx with rfl|hx
   .exact Y4
   .exact ih h x hx
theorem RQ{β:Type}{l:List (Int × β)}{k:Int}{v:β}(h:Yg l k=A v):(k,v)∈l:=by
 induction l with
 | nil=>cases h
 | cons y l ih=>
  obtain⟨a,u⟩:=y;unfold Yg at h;split at h
  .rename_i he
   cases h;subst he;exact List.mem_cons_self
  .exact List.mem_cons_of_mem _ (ih h)
section
variable {P:aa} {T:a3} {ty:L} {F:Env} {h:Hp} {K:G->Hp->Prop}
def Uk:Nat->List (Int × G)->List MapEntry
 | _,[]=>[]
 | i,(k,v) :: l=>⟨M D k,v,i⟩ :: Uk (i+1) l
def Jm(l:List (Int × G)):Obj:=.map (Uk 0 l).toArray (J l)
theorem VV:∀(l:List (Int × G)) (i:Nat),(Uk i l).length=(J l):=by
 intro l
 induction l with
 | nil=>intro i;rfl
 | cons x l ih=>intro i;obtain⟨k,v⟩:=x;simp[Uk,ih]
def Ko(l:List (Int × G))(k:Int):Nat->Option (Nat × G):=fun j=>match l with
 | []=>U
 | (a,v) :: r=>if k=a then A (j,v) else Ko r k (j+1)
theorem ax(k:Int):∀(l:List (Int × G)) (i j:Nat),Instr.findNow (.int D) (M D k) (Uk i l) j=A (Ko l k j):=by
 intro l
 induction l with
 | nil=>intro i j;rfl
 | cons x l ih=>
  intro i j;obtain⟨a,v⟩:=x;unfold Uk Instr.findNow Ko;simp only[Instr.sameNow,if_true];by_cases hk:k=a
  .subst hk;simp
  .rw[if_neg hk];have:(k == a)=false:=by simpa using hk
   rw[this];exact ih _ _
theorem xe(k:Int):∀(l:List (Int × G)) (j:Nat),(Ko l k j).map (·.2)=Yg l k:=by
 intro l
 induction l with
 | nil=>intro j;rfl
 | cons x l ih=>
  intro j;obtain⟨a,v⟩:=x;unfold Ko Yg;by_cases hk:k=a
  .rw[if_pos hk,if_pos hk.symm];rfl
  .rw[if_neg hk,if_neg (fun e=>hk e.symm)];exact ih _
theorem pJ{k:Int}:∀{l:List (Int × G)} {j:Nat},Ko l k j=U->∀(v:G),ins l k v=l++[(k,v)]:=by
 intro l
 induction l with
 | nil=>intro j _ v;rfl
 | cons x l ih=>
  intro j h v;obtain⟨a,u⟩:=x;unfold Ko at h;split at h
  .cases h
  .rename_i hk;unfold ins;rw[if_neg (fun e=>hk e.symm),ih h v];rfl
theorem ij(k:Int)(v:G):∀(l:List (Int × G)) (i:Nat),Uk i (l++[(k,v)])=Uk i l++[⟨M D k,v,i+(J l)⟩]:=by
 intro l
 induction l with
 | nil=>intro i;rfl
 | cons x l ih=>intro i;obtain⟨a,u⟩:=x;simp only[List.cons_append,Uk,ih,ba];congr 4;omega
theorem pK{k:Int}:∀{l:List (Int × G)} {i j:Nat} {n:Nat} {u:G},Ko l k j=A (n,u)->∃m,n=m+j/\m<(J l)/\(Uk i l)[m]? = A ⟨M D k,u,i+m⟩/\∀v,Uk i (ins l k v)=(Uk i l).set m ⟨M D k,v,i+m⟩:=by
 intro l
 induction l with
 | nil=>intro i j n u h;cases h
 | cons x l ih=>
  intro i j n u h;obtain⟨a,w⟩:=x;unfold Ko at h;by_cases hk:k=a
  .subst hk;rw[if_pos rfl]at h
   cases h
   exact⟨0,nT,uK,rfl,fun v=>by unfold ins;rw[if_pos rfl];rfl⟩
  .rw[if_neg hk]at h;obtain⟨m,h1,h2,h3,h4⟩:=ih (i:=i+1) h;refine⟨m+1,nT,by simpa using h2,?_,fun v=>?_⟩
   .simp only[Uk,a4];rw[h3];congr 2;omega
   .unfold ins;rw[if_neg (fun e=>hk e.symm)];simp only[Uk,List.set_cons_succ,h4];congr 3;omega
def Iv(P:aa)(t:L)(m k x:G)(K:G->Hp->Prop)(h:Hp):Prop:=hw P (Instr.mapUpdate t m k x) (fun _ h=>K undef h) h
@[go_sem] theorem EM{m k:ae}:Sb P T (.mapUpdate t m k x) ty K F h=Iv P t (ev F m) (ev F k) (ev F x) K h:=by
 show hw P (do let _ <-Instr.mapUpdate t (ev F m) (ev F k) (ev F x);pure Next.skip) (Jt P T K) h=_;rw[Zk];rfl
@[go_sem] theorem ik{m k:ae}:Sb P T (.insert t m k x) ty K F h=Iv P t (ev F m) (ev F k) (ev F x) K h:=by
 show hw P (do let _ <-Instr.mapUpdate t (ev F m) (ev F k) (ev F x);pure Next.skip) (Jt P T K) h=_;rw[Zk];rfl
@[go_sem] theorem ZbF{m k:ae}:Ew P T ⟨U,.mapUpdate t m k x,ty, "", #[],U⟩ K F h=Iv P t (ev F m) (ev F k) (ev F x) K h:=EM
@[go_sem] theorem Zgt{m k:ae}:Ew P T ⟨U,.insert t m k x,ty, "", #[],U⟩ K F h=Iv P t (ev F m) (ev F k) (ev F x) K h:=ik
def lQ(P:aa)(t:L):Option L:=match P.underlying t with
 | some (.map k e)=>(match P.underlying k with|some (.int D)=>A e|_=>U)
 | _=>U
theorem Lf{e:L}(h:lQ P t=A e):∃k,P.underlying t=A (.map k e)/\P.underlying k=A (.int D):=by
 unfold lQ at h;split at h
 .rename_i k e' hu;split at h
  .rename_i hk
   cases h
   exact⟨k,hu,hk⟩
  .cases h
 .cases h
def tzv(P:aa)(t:L):Option G:=(P.info? t).bind (·.zero)
theorem Mi{k:L}(hk:P.underlying k=A (.int D)){b:Bool}{n:Int}{Q:Unit->Hp->Prop}:hw P (Instr.checkKey b 10000 k (M D n)) Q h=Q () h:=by
 show hw P (do
  match <-underlying k,(Value.int D n) with
  | .interface _,.iface d x=>
   let info <-typeInfo d
   if !info.comparable then
    if b then runtimePanic (.unhashable d)
    runtimePanic (.error ("hash of unhashable type " ++ (<-typeStr d)))
   Instr.checkKey b 9999 d x
  | .array len elem,.agg cs=>
   for i in [0:len] do Instr.checkKey b 9999 elem (<-part elem cs (i*(<-sizeOf elem)))
  | .struct fields,.agg cs=>
   for f in fields do
    if f.name ≠ "_" then Instr.checkKey b 9999 f.type (<-part f.type cs f.offset)
  | .interface _,.nilIface=>pure ()
  | .interface _,_|.array _ _,_|.struct _,_=>stuck "map key: not a value of its type"
  | _,_=>pure ()) Q h=_
 rw[Zk,ZH hk];rfl
theorem Og{k:L}(hk:P.underlying k=A (.int D)){n:Int}{l:List (Int × G)}{Q:Option (Nat × G)->Hp->Prop}:hw P (Instr.findKey k (M D n) (Uk 0 l)) Q h=Q (Ko l n 0) h:=by
 unfold Instr.findKey;rw[Zk,ZH hk];simp only[ax];rfl
theorem Y9{e:L}{z:G}{l:List (Int × G)}{n:Int}{c:Bool}(ht:lQ P t=A e)(hz:tzv P e=A z)(hm:h[b]? = A (Jm l)):
  It P t (.map (A b)) (M D n) c K h=K (if c=true then .tuple #[(Yg l n).getD z,Z (Yg l n).isSome] else (Yg l n).getD z) h:=by
 obtain⟨k,hu,hk⟩:=Lf ht;unfold It Instr.lookup;rw[Zk,ZH hu];simp only;rw[Zk];apply propext;rw[Mg hm];simp only;rw[Zk,ZL,Zk,Mi hk,Zk,Og hk,<-xe n l 0]
 cases Ko l n 0 with
 | none=>
  simp only[Option.map_none,Option.getD_none,Option.isSome_none];rw[Zk];have Cz:=fun {Q:G->Hp->Prop}=>Du (P:=P) (h:=h) (Q:=Q) hz;rw[Cz]
  cases c<;>exact Iff.rfl
 | some p=>cases c<;>exact Iff.rfl
@[go_sem] theorem Ba{e:L}{z:G}{n:Int}{c:Bool}(ht:lQ P t=A e)(hz:tzv P e=A z):
  It P t (.map U) (M D n) c K h=K (if c=true then .tuple #[z,Z false] else z) h:=by
 obtain⟨k,hu,hk⟩:=Lf ht;unfold It Instr.lookup;rw[Zk,ZH hu];simp only;rw[Zk,ZL,Zk,Mi hk,Zk];have:=fun {Q:Option (Nat × G)->Hp->Prop}=>Og (P:=P) (h:=h) (k:=k) hk (n:=n) (l:=[]) (Q:=Q);rw[show (#[]:Array MapEntry).toList=Uk 0 [] from rfl,this];simp only[Ko];rw[Zk];have Cz:=fun {Q:G->Hp->Prop}=>Du (P:=P) (h:=h) (Q:=Q) hz;rw[Cz]
 cases c<;>rfl
theorem Qa{e:L}{l:List (Int × G)}{n:Int}{x:G}(ht:lQ P t=A e)(hm:h[b]? = A (Jm l)):
  Iv P t (.map (A b)) (M D n) x K h=K undef (h.setIfInBounds b (Jm (ins l n x))):=by
 obtain⟨k,hu,hk⟩:=Lf ht;unfold Iv Instr.mapUpdate;rw[Zk,ZH hu];simp only;rw[Zk];apply propext;rw[Mg hm];simp only;rw[Zk,Mi hk,Zk];show hw P (Instr.findKey k (M D n) (Uk 0 l)) _ h↔_;rw[Og hk];have st:∀(es:Array MapEntry) (c:Nat) (Q:Unit->Hp->Prop),hw P (setObj b (.map es c)) Q h↔Q () (h.setIfInBounds b (.map es c)):=fun es c Q=>
  ⟨fun H=>H.2,fun H=>⟨⟨_,hm,rfl⟩,H⟩⟩
 cases hp:Ko l n 0 with
 | none=>
  simp only;rw[st];have e1:(Obj.map ((Uk 0 l).toArray.push ⟨M D n,x,(J l)⟩) ((J l)+1))=Jm (ins l n x):=by
   rw[pJ hp x];unfold Jm;rw[ij,List.push_toArray,ao,bp];rfl
  rw[e1]
 | some p=>
  obtain⟨i,u⟩:=p;obtain⟨m,h1,h2,h3,h4⟩:=pK (i:=0) hp;obtain rfl:i=m:=nT;simp only;rw[Zk];have e0:(((Uk 0 l).toArray[i]?).map (·.key)).getD (M D n)=M D n:=by
   rw[aq,h3];rfl
  have e2:∀(Q:G->Hp->Prop),hw P (Instr.keyThatStays (M D n) (M D n)) Q h=Q (M D n) h:=fun Q=>by
   unfold Instr.keyThatStays;have:Instr.sameBits 10000 (M D n) (M D n)=true:=by simp[Instr.sameBits]
   rw[if_pos this];rfl
  rw[e0,e2,st];have e1:(Obj.map ((Uk 0 l).toArray.modify i fun e=>{ e with key:=M D n,val:=x }) (J l))=Jm (ins l n x):=by
   unfold Jm;rw[h4 x,bp];have hlen:(ins l n x).length=(J l):=by
    have e5:(Uk 0 (ins l n x)).length=(Uk 0 l).length:=by rw[h4 x];simp
    rw[VV,VV]at e5;exact e5
   rw[hlen]
   congr 1
   apply bh;intro j;rw[Array.getElem?_modify,aq,aq,List.getElem?_set];by_cases hj:i=j
   .subst hj;rw[if_pos rfl,if_pos rfl,h3,if_pos (by rw[VV];exact h2)];rw[bp];rfl
   .rw[if_neg hj,if_neg hj]
  rw[e1]
theorem RS{cs:Array Bool}{e:L}{l:List (Int × G)}(ht:lQ P t=A e)(hm:h[b]? = A (Jm l)):PY P T .len #[t] ty cs [.map (A b)] K h=K (M D (J l)) h:=by
 obtain⟨k,hu,hk⟩:=Lf ht;show hw P (do pure (.value (<-Builtin.len_ #[t] ty #[.map (A b)]))) (Jt P T K) h=_;rw[Zk];show hw P (do
  match <-underlying t,(Value.map (A b)) with
  | .string,.string s=>pure (goInt s.size)
  | .array n _,_=>pure (goInt n)
  | .pointer arr,_=>
   let .array n _ <-underlying arr|stuck "len: pointer to array expected"
   pure (goInt n)
  | .slice _,O _ n _=>pure (goInt n)
  | .map _ _,.map U|.chan _ _,.chan U=>pure (goInt 0)
  | .map _ _,.map (A r)=>
   let .map entries _ <-getObj r|stuck "len: map expected"
   pure (goInt entries.size)
  | .chan _ _,.chan (A r)=>
   let .chan _ buf _ _ _ timer <-getObj r|stuck "len: channel expected"
   pure (goInt (if timer then 0 else buf.size))
  | _,_=>stuck "len: string, array, pointer to array, slice, map or channel expected") K h=_
 rw[Zk,ZH hu];simp only;rw[Zk];apply propext;rw[Mg hm];simp only[br,VV];exact Iff.rfl
def tkp(P:aa)(t:L):Bool:=match P.underlying t with|some (.pointer _)=>true|_=>false
def tkm(P:aa)(t:L):Bool:=match P.underlying t with|some (.map _ _)=>true|_=>false
def tkf(P:aa)(t:L):Bool:=match P.underlying t with|some (.func _ _ _)=>true|_=>false
theorem xf(h:tkp P t=true):∃e,P.underlying t=A (.pointer e):=by
 unfold tkp at h;split at h
 .exact⟨_,aab⟩
 .cases h
theorem xh(h:tkm P t=true):∃k e,P.underlying t=A (.map k e):=by
 unfold tkm at h;split at h
 .exact⟨_,_,aab⟩
 .cases h
theorem ay(h:tkf P t=true):∃a b c,P.underlying t=A (.func a b c):=by
 unfold tkf at h;split at h
 .exact⟨_,_,_,aab⟩
 .cases h
theorem GJ(ht:tkp P t=true){a:Option Addr}{Q:Bool->Hp->Prop}:hw P (Op.equal t (.pointer a) (.pointer U)) Q h=Q a.isNone h:=by
 obtain⟨e,hu⟩:=xf ht;unfold Op.equal Op.maxDepth Op.equalIn;rw[Zk,ZH hu]
 cases a<;>rfl
theorem run_eq_map(ht:tkm P t=true){a:Option Nat}{Q:Bool->Hp->Prop}:hw P (Op.equal t (.map a) (.map U)) Q h=Q a.isNone h:=by
 obtain⟨k,e,hu⟩:=xh ht;unfold Op.equal Op.maxDepth Op.equalIn;rw[Zk,ZH hu]
 cases a<;>rfl
theorem Dw(ht:tkf P t=true){f:Fn}{x y:Array G}{Q:Bool->Hp->Prop}:hw P (Op.equal t (.func f x y) .nilFunc) Q h=Q false h:=by
 obtain⟨a,b,c,hu⟩:=ay ht;unfold Op.equal Op.maxDepth Op.equalIn;rw[Zk,ZH hu];rfl
theorem Dx(ht:tkf P t=true){Q:Bool->Hp->Prop}:hw P (Op.equal t .nilFunc .nilFunc) Q h=Q true h:=by
 obtain⟨a,b,c,hu⟩:=ay ht;unfold Op.equal Op.maxDepth Op.equalIn;rw[Zk,ZH hu];rfl
theorem Bb{a b:G}{r:Bool}(hg:∀{Q:Unit->Hp->Prop},hw P (eqGuard .eql t x y a b) Q h=Q () h)(hb:binOp .eql t a b=do pure (Z (<-Op.equal t a b)))(he:∀{Q:Bool->Hp->Prop},hw P (Op.equal t a b) Q h=Q r h):XS P .eql t x y a b K h=K (Z r) h:=by
 unfold XS;rw[Zk,hg,hb,Zk,he];rfl
theorem il{a b:G}{r:Bool}(hg:∀{Q:Unit->Hp->Prop},hw P (eqGuard .neq t x y a b) Q h=Q () h)(hb:binOp .neq t a b=do pure (Z (!(<-Op.equal t a b))))(he:∀{Q:Bool->Hp->Prop},hw P (Op.equal t a b) Q h=Q r h):XS P .neq t x y a b K h=K (Z (!r)) h:=by
 unfold XS;rw[Zk,hg,hb,Zk,he];rfl
@[go_sem] theorem Ze4{a:Option Addr}(ht:tkp P t=true):XS P .eql t x y (.pointer a) (.pointer U) K h=K (Z a.isNone) h:=Bb rfl rfl (GJ ht)
@[go_sem] theorem Ze5{a:Option Addr}(ht:tkp P t=true):XS P .neq t x y (.pointer a) (.pointer U) K h=K (Z (!a.isNone)) h:=il rfl rfl (GJ ht)
@[go_sem] theorem Ze6{a:Option Nat}(ht:tkm P t=true):XS P .eql t x y (.map a) (.map U) K h=K (Z a.isNone) h:=Bb rfl rfl (run_eq_map ht)
@[go_sem] theorem Zgu{f:Fn}{u v:Array G}(ht:tkf P t=true):XS P .eql t x y (.func f u v) .nilFunc K h=K (Z false) h:=Bb rfl rfl (Dw ht)
@[go_sem] theorem Zgv(ht:tkf P t=true):XS P .eql t x y .nilFunc .nilFunc K h=K (Z true) h:=Bb rfl rfl (Dx ht)
@[go_sem] theorem Zgw{f:Fn}{u v:Array G}(ht:tkf P t=true):XS P .neq t x y (.func f u v) .nilFunc K h=K (Z true) h:=il rfl rfl (Dw ht)
@[go_sem] theorem Zgx(ht:tkf P t=true):XS P .neq t x y .nilFunc .nilFunc K h=K (Z false) h:=il rfl rfl (Dx ht)
end
inductive az{α β:Type}(R:α->β->Prop):List α->List β->Prop
 | nil:az R [] []
 | cons {a:α} {b:β} {l:List α} {k:List β}:R a b->az R l k->az R (a :: l) (b :: k)
section
variable {τ:Type}
structure Kp(S:τ->Prop)(o:Nat->Option τ)(h:Hp)(o':Nat->Option τ)(h':Hp):Prop where
 size:h.size<=h'.size
 Ze:∀b,b<h.size->(∀t,o b=A t->¬S t)->h'[b]? = h[b]? /\ o' b=o b
 stay:∀b,b<h.size->∀t,o b=A t->S t->∃t',o' b=A t'/\S t'
 new:∀b,h.size<=b->∀t,o' b=A t->S t
 Yp:∀b,h'.size<=b->o' b=U
variable {S S':τ->Prop} {o o' o'':Nat->Option τ} {h h' Kg:Hp}
def Vx(o:Nat->Option τ)(h:Hp):Prop:=∀b,h.size<=b->o b=U
theorem Kp.refl(d:Vx o h)(S:τ->Prop):Kp S o h o h:=
 ⟨a2 _,fun _ _ _=>⟨rfl,rfl⟩,fun _ _ t ht hs=>⟨t,ht,hs⟩,fun b hb t ht=>(by rw[d b hb]at ht;cases ht),d⟩
theorem Kp.mono(k:Kp S o h o' h')(hs:∀t,S t->S' t):Kp S' o h o' h':=
 ⟨k.size,fun b hb hn=>k.Ze b hb fun t ht q=>hn t ht (hs t q),fun b hb t ht q=>by
  by_cases p:S t
  .obtain⟨t',h1,h2⟩:=k.stay b hb t ht p;exact⟨t',h1,hs _ h2⟩
  .exact⟨t,by rw[(k.Ze b hb fun u hu=>by rw[ht]at hu;cases hu;exact p).2,ht],q⟩,fun b hb t ht=>hs _ (k.new b hb t ht),k.Yp⟩
theorem Kp.trans(k:Kp S o h o' h')(l:Kp S o' h' o'' Kg):Kp S o h o'' Kg:=by
 refine⟨Nat.le_trans k.size l.size,fun b hb hn=>?_,fun b hb t ht hs=>?_,fun b hb t ht=>?_,l.Yp⟩
 .obtain⟨h1,h2⟩:=k.Ze b hb hn;obtain⟨h3,h4⟩:=l.Ze b (bk hb k.size) fun t ht=>hn t (by rw[<-h2];exact ht);exact⟨h3.trans h1,h4.trans h2⟩
 .obtain⟨t',h1,h2⟩:=k.stay b hb t ht hs;exact l.stay b (bk hb k.size) t' h1 h2
 .by_cases J9:h'.size<=b
  .exact l.new b J9 t ht
  .have ZS:b<h'.size:=nT
   cases ho:o' b with
   | none=>
    have:=(l.Ze b ZS fun u hu=>by rw[ho]at hu;cases hu).2;rw[this,ho]at ht;cases ht
   | some t1=>
    obtain⟨t2,h1,h2⟩:=l.stay b ZS t1 ho (k.new b hb t1 ho);rw[h1]at ht;cases ht;exact h2
theorem Kp.get(k:Kp S o h o' h'){x:Obj}(hx:h[b]? = A x)(hn:∀t,o b=A t->¬S t):h'[b]? = A x:=by
 rw[(k.Ze b (Za hx) hn).1,hx]
theorem Kp.Zm(k:Kp S o h o' h'){x:Obj}(hx:h[b]? = A x)(hn:∀t,o b=A t->¬S t):o' b=o b:=(k.Ze b (Za hx) hn).2
theorem Kp.free(k:Kp S o h o' h'){x:Obj}(hx:h[b]? = A x)(hn:o b=U):h'[b]? = A x/\o' b=U:=by
 have NH:∀t,o b=A t->¬S t:=fun t ht=>by rw[hn]at ht;cases ht
 exact⟨k.get hx NH,(k.Zm hx NH).trans hn⟩
theorem Kp.GK(d:Vx o h)(b:Zj h.size h h')(S:τ->Prop):Kp S o h o h':=
 ⟨b.size,fun k hk _=>⟨b.block k hk,rfl⟩,fun _ _ t ht hs=>⟨t,ht,hs⟩,fun k hk t ht=>(by rw[d k hk]at ht;cases ht),fun k hk=>d k (Nat.le_trans b.size hk)⟩
theorem Kp.Yz(k:Kp S o h o' h')(b:Zj h'.size h' Kg):Kp S o h o' Kg:=k.trans (Kp.GK k.Yp b S)
theorem Kp.push(k:Kp S o h o' h')(x:Obj):Kp S o h o' (h'.push x):=k.Yz ((Zj.refl _ _).add x)
theorem Kp.set(k:Kp S o h o' h'){t:τ}(hb:o' b=A t)(hs:S t)(x:Obj):Kp S o h o' (h'.setIfInBounds b x):=by
 refine k.trans ⟨by rw[aw];exact a2 _,fun c hc hn=>⟨?_,rfl⟩,fun _ _ t ht hs=>⟨t,ht,hs⟩,fun c hc t ht=>(by rw[k.Yp c hc]at ht;cases ht),fun c hc=>k.Yp c (by rw[aw]at hc;exact hc)⟩;rw[am,if_neg (fun e=>hn t (by rw[<-e];exact hb) hs)]
theorem Kp.xj(k:Kp S o h o' h')(hb:h.size<=b)(x:Obj):Kp S o h o' (h'.setIfInBounds b x):=by
 refine⟨by rw[aw];exact k.size,fun c hc hn=>⟨?_,(k.Ze c hc hn).2⟩,k.stay,k.new,fun c hc=>k.Yp c (by rw[aw]at hc;exact hc)⟩;rw[am,if_neg (fun e=>by omega)];exact (k.Ze c hc hn).1
def QS(o:Nat->Option τ)(b:Nat)(t:τ):Nat->Option τ:=fun c=>if c=b then A t else o c
theorem XR{t:τ}:QS o b t b=A t:=if_pos rfl
theorem XY{c:Nat}{t:τ}(hc:c≠b):QS o b t c=o c:=if_neg hc
theorem Kp.Oh(k:Kp S o h o' h'){t:τ}(hb:h.size<=b)(ZS:b<h'.size)(hs:S t):Kp S o h (QS o' b t) h':=
 ⟨k.size,fun c hc hn=>⟨(k.Ze c hc hn).1,by rw[XY nT];exact (k.Ze c hc hn).2⟩,fun c hc u hu hsu=>by rw[XY nT];exact k.stay c hc u hu hsu,
  fun c hc u hu=>by
  by_cases CA:c=b
  .subst CA;rw[XR]at hu;cases hu;exact hs
  .rw[XY CA]at hu;exact k.new c hc u hu,
  fun c hc=>by rw[XY nT];exact k.Yp c hc⟩
def XC(o:Nat->Option τ)(t:τ)(E:L)(n:Nat)(h:Hp)(v:G)(m:Nat)(cs:List G):Prop:=
 ((∃p,v=O p 0 0)/\m=0/\cs=[]) \/
 ∃b k cap pre ZG,o b=A t/\v=O (A ⟨b,k,U⟩) m cap/\h[b]? = A (a5 (pre++(cs++ZG)).toArray E (0,0))/\(J pre)=k/\(J cs)=m*n/\(J ZG)=(cap-m)*n/\m<=cap
variable {t:τ} {E:L} {n m:Nat} {v:G} {cs:List G}
theorem XC.nil(o:Nat->Option τ)(t:τ)(E:L)(n:Nat)(h:Hp):XC o t E n h (O U 0 0) 0 []:=.inl ⟨⟨_,rfl⟩,rfl,rfl⟩
theorem XC.Ze(s:XC o t E n h v m cs)(k:Kp S o h o' h')(hn:¬S t):XC o' t E n h' v m cs:=by
 rcases s with s|⟨b,j,cap,pre,ZG,h1,h2,h3,h4,h5,h6,h7⟩
 .exact .inl s
 .have NH:∀u,o b=A u->¬S u:=fun u hu=>by rw[h1]at hu;cases hu;exact hn
  exact .inr ⟨b,j,cap,pre,ZG,by rw[k.Zm h3 NH,h1],h2,k.get h3 NH,h4,h5,h6,h7⟩
theorem XC.sl(s:XC o t E n h v m cs):Sl n h v m cs:=by
 rcases s with⟨⟨p,rfl⟩,rfl,rfl⟩|⟨b,j,cap,pre,ZG,h1,rfl,h3,h4,h5,h6,h7⟩
 .exact⟨p,0,rfl,uK,fun Y4=>absurd rfl Y4⟩
 .exact Te h3 h5 h4.symm
theorem XC.length(s:XC o t E n h v m cs):(J cs)=m*n:=by
 rcases s with⟨_,rfl,rfl⟩|⟨b,j,cap,pre,ZG,h1,h2,h3,h4,h5,h6,h7⟩
 .simp
 .exact h5
theorem XC.ZO(s:XC o t E n h v m cs):∃p c,v=O p m c/\m<=c:=by
 rcases s with⟨⟨p,rfl⟩,rfl,rfl⟩|⟨b,j,cap,pre,ZG,h1,rfl,h3,h4,h5,h6,h7⟩
 .exact⟨p,0,rfl,a2 _⟩
 .exact⟨_,cap,rfl,h7⟩
theorem XC.tail{p:Option Addr}{c:Nat}(s:XC o t E n h (O p m c) m cs){k:Nat}(hk:k<=m):XC o t E n h (O (if c=k then p else p.map (·.add (k*n))) (m-k) (c-k)) (m-k) (cs.drop (k*n)):=by
 rcases s with⟨⟨q,h1⟩,h2,h3⟩|⟨b,j,cap,pre,ZG,h1,h2,h3,h4,h5,h6,h7⟩
 .simp only[Value.slice.injEq]at h1;obtain⟨rfl,rfl,rfl⟩:=h1;have e:k=0:=nT;subst e;subst h3;exact .inl ⟨⟨_,rfl⟩,rfl,uK⟩
 .simp only[Value.slice.injEq]at h2;obtain⟨rfl,_,rfl⟩:=h2;have hmn:k*n<=m*n:=bd _ hk;by_cases hc:c=k
  .have hm:m=k:=nT;rw[if_pos hc];refine .inl ⟨⟨A ⟨b,j,U⟩,by rw[hc,hm,Nat.sub_self]⟩,nT,?_⟩;exact List.drop_eq_nil_of_le (by rw[h5,hm];exact a2 _)
  .rw[if_neg hc];refine .inr ⟨b,j+k*n,c-k,pre++cs.take (k*n),ZG,h1,by rw[Option.map_some,XL],?_,?_,?_,?_,nT⟩
   .rw[a8,<-a8 (List.take _ _),List.take_append_drop];exact h3
   .rw[ao,List.length_take,h4,h5];omega
   .rw[bw,h5,Nat.sub_mul]
   .rw[h6];congr 1;omega
variable {P:aa} {T:a3} {K:G->Hp->Prop} {F:Env} {ty:L}
theorem aA{a b c vs:List G}{i:Nat}(hi:i=(J a)+(J b))(hv:(J vs)<=(J c)):Y8 (a++(b++c)) i vs=a++((b++vs)++c.drop (J vs)):=by
 subst hi;have e1:a++(b++c)=(a++b)++c:=by rw[a8]
 rw[e1,<-ao,Tn,UU _ _ hv];simp
theorem QT{sT xT E' k bytes:Nat}{s:G}{news zs:List G}{cb:Array Bool}(VR:QP P sT=A E)(CL:P.underlying xT=A (.slice E'))(hn:tn P E=A n)(hz:tz P E=A zs)(gM:zs.length=n)(OT:tb P E=A bytes)(Zm:XC o t E n h v m cs)(d:Vx o h)(src:Sl n h s k news)(XW:news.all YD=true)(Y5:(m+k)*bytes<=140737488355328)(Gy:1<=bytes)(H:∀v' o' h',XC o' t E n h' v' (m+k) (cs++news)->Kp (fun u=>u=t) o h o' h'->(∀b,b<h.size->o' b=o b)->K v' h'):PY P T .append #[sT,xT] ty cb [v,s] K h:=by
 unfold QP at VR;split at VR
 .rename_i e' hu;simp only[Option.some.injEq]at VR;subst VR;show hw P (do pure (.value (<-a0 #[sT,xT] ty #[v,s]))) (Jt P T K) h;rw[Zk];show hw P (a0 #[sT,xT] ty #[v,s]) K h;obtain⟨i0,PK⟩:∃i,P.info? e'=A i:=by
   unfold tn at hn
   cases hi:P.info? e' with
   | none=>rw[hi]at hn;cases hn
   | some i=>exact⟨i,rfl⟩
  have Ma:i0.bytes=bytes:=by unfold tb at OT;rw[PK]at OT;simpa using OT
  obtain⟨z0,Au,gN⟩:∃z,i0.zero=A z/\z.cells.toList=zs:=by
   unfold tz at hz;rw[PK]at hz
   cases HK:i0.zero with
   | none=>rw[aU,HK]at hz;cases hz
   | some z=>rw[aU,HK]at hz;exact⟨z,rfl,by simpa using hz⟩
  obtain⟨base,cap,hv,ue⟩:=Zm.ZO;subst hv;have py:∀{Q:G->Hp->Prop} (g:Hp),hw P (zeroValue e') Q g=Q z0 g:=fun {Q} g=>by
   unfold zeroValue;rw[Zk,X1 PK];simp only[Au];rfl
  have VT:news.length=k*n:=by obtain⟨_,_,_,hl,_⟩:=src;exact hl
  simp only[a0,aq,bb,a4,Zk,ZL,ZH hu,ZH CL,run_sizeOf hn,bl,if_false,src.lenOf,bA,if_true];by_cases QR:m+k<=cap
  .rw[if_pos QR,Zk];refine YC src ?_;rcases Zm with⟨⟨p,h1⟩,h2,h3⟩|⟨b,j,Gz,pre,ZG,h1,h2,h3,h4,h5,h6,h7⟩
   .simp only[Value.slice.injEq]at h1;obtain⟨rfl,rfl,rfl⟩:=h1;have hk:k=0:=nT;subst hk;subst h3;have Y4:news=[]:=a7 (by simpa using VT);subst Y4;have hK:K (.slice base (0+0) 0) h:=H _ o h (.inl ⟨⟨_,rfl⟩,rfl,rfl⟩) (Kp.refl d _) (fun _ _=>rfl)
    cases base<;>exact hK
   .simp only[Value.slice.injEq]at h2;obtain⟨rfl,_,rfl⟩:=h2;simp only[Zk,XL];have RO:news.length<=ZG.length:=by rw[VT,h6];exact bd _ nT
    refine YV (e:=e') (lo:=0) (hi:=0) rfl (a2 _) news 0 h (pre++(cs++ZG)).toArray h3 ?_ XW ?_
    .simp;rw[h4,<-h5];omega
    .simp only[ZL,bt];refine H _ o _ (.inr ⟨b,j,cap,pre,ZG.drop news.length,h1,rfl,?_,h4,?_,?_,QR⟩) ((Kp.refl d (fun u=>u=t)).set h1 rfl _) (fun _ _=>rfl)
     .rw[am,if_pos rfl,if_pos (Za h3)];rw[aA (by rw[h4,h5]) RO]
     .rw[ao,h5,VT,Nat.add_mul]
     .rw[bw,h6,VT,<-Nat.sub_mul];congr 1;omega
  .rw[if_neg QR];have Vk:¬Builtin.nextslicecap (m+k) cap*i0.bytes>2 ^ 48:=by
    rw[Ma];have:=To (m+k) cap bytes nT Y5;omega
   have gO:¬i0.bytes=0:=by rw[Ma];omega
   simp only[Zk,X1 PK,gO,or_false,and_false,if_false,if_neg Vk];intro q;obtain⟨c,hc⟩:=ZN (Question.cut (Question.appendCap (m+k) cap e') q);have wh:m+k<=c:=by rw[hc];simp only[Question.cut];omega
   rw[<-hc];have SC:∀{Q:Unit->Hp->Prop} (b:Nat) (g:Hp),Q () g->hw P (askRoom b) Q g:=fun {Q} b g q=>by
    unfold askRoom;split<;>exact q
   refine SC _ _ (YC Zm.sl (YC src ?_));rw[py];have wm:z0.cells.size=n:=by rw[<-gM,<-gN];simp
   refine H (.slice (A ⟨h.size,0,U⟩) (m+k) c) (QS o h.size t) _ (.inr ⟨h.size,0,c,[],(al z0.cells (c-(m+k))).toList,XR,rfl,?_,rfl,?_,?_,wh⟩) (((Kp.refl d _).push _).Oh (a2 _) uK rfl) (fun b hb=>XY nT)
   .rw[Array.getElem?_push_size];simp
   .rw[ao,Zm.length,VT,Nat.add_mul]
   .rw[be,Xp,wm]
 .cases VR
theorem GL{sT xT E' k off cap:Nat}{s:G}{pre ZG news zs:List G}{cb:Array Bool}(VR:QP P sT=A E)(CL:P.underlying xT=A (.slice E'))(hn:tn P E=A n)(hz:tz P E=A zs)(hb:h[b]? = A (a5 (pre++(cs++ZG)).toArray E (0,0)))(ho:off=(J pre))(hl:(J cs)=m*n)(src:Sl n h s k news)(XW:news.all YD=true)(QR:m+k<=cap)(Y5:k*n<=(J ZG))(H:K (O (A ⟨b,off,U⟩) (m+k) cap) (h.setIfInBounds b (a5 (pre++((cs++news)++ZG.drop (k*n))).toArray E (0,0)))):PY P T .append #[sT,xT] ty cb [O (A ⟨b,off,U⟩) m cap,s] K h:=by
 unfold QP at VR;split at VR
 .rename_i e' hu;simp only[Option.some.injEq]at VR;subst VR;show hw P (do pure (.value (<-a0 #[sT,xT] ty #[O (A ⟨b,off,U⟩) m cap,s]))) (Jt P T K) h;rw[Zk];show hw P (a0 #[sT,xT] ty #[O (A ⟨b,off,U⟩) m cap,s]) K h;obtain⟨i0,PK⟩:∃i,P.info? e'=A i:=by
   unfold tn at hn
   cases hi:P.info? e' with
   | none=>rw[hi]at hn;cases hn
   | some i=>exact⟨i,rfl⟩
  obtain⟨z0,Au,gN⟩:∃z,i0.zero=A z/\z.cells.toList=zs:=by
   unfold tz at hz;rw[PK]at hz
   cases HK:i0.zero with
   | none=>rw[aU,HK]at hz;cases hz
   | some z=>rw[aU,HK]at hz;exact⟨z,rfl,by simpa using hz⟩
  have VT:(J news)=k*n:=by obtain⟨_,_,_,hl,_⟩:=src;exact hl
  simp only[a0,aq,bb,a4,Zk,ZL,ZH hu,ZH CL,run_sizeOf hn,bl,if_false,src.lenOf,bA,if_true];rw[if_pos QR,Zk];refine YC src ?_;simp only[Zk,XL];refine YV (e:=e') (lo:=0) (hi:=0) rfl (a2 _) news 0 h (pre++(cs++ZG)).toArray hb ?_ XW ?_
  .simp;rw[ho,hl.symm];omega
  .simp only[ZL,bt];have e:Y8 (pre++(cs++ZG)) (off+m*n) news=pre++((cs++news)++ZG.drop (k*n)):=by
    rw[aA (by rw[ho,hl]) nT,VT]
   rw[e];exact H
 .cases VR
theorem Kq{sT:L}{zs:List G}{cb:Array Bool}{off k c:Nat}{pre MH post:List G}(VR:QP P sT=A E)(hz:tz P E=A zs)(gM:(J zs)=n)(Bc:zs.all YD=true)(hb:h[b]? = A (a5 (pre++(MH++post)).toArray E (0,0)))(ho:off=(J pre))(hl:(J MH)=k*n)(H:∀new:List G,(J new)=(J MH)->K (.tuple #[]) (h.setIfInBounds b (a5 (pre++(new++post)).toArray E (0,0)))):PY P T .clear #[sT] ty cb [O (A ⟨b,off,U⟩) k c] K h:=by
 unfold QP at VR;split at VR
 .rename_i e' hu;simp only[Option.some.injEq]at VR;subst VR;show hw P (do pure (.value (<-bC #[sT] ty #[O (A ⟨b,off,U⟩) k c]))) (Jt P T K) h;rw[Zk];show hw P (bC #[sT] ty #[O (A ⟨b,off,U⟩) k c]) K h;have same:h.setIfInBounds b (a5 (pre++(MH++post)).toArray e' (0,0))=h:=by
   apply bh;intro j;rw[am];by_cases hj:b=j
   .subst hj;rw[if_pos rfl,if_pos (Za hb),hb]
   .rw[if_neg hj]
  show hw P (do
   match <-underlying sT,(Value.slice (A ⟨b,off,U⟩) k c) with
   | _,.map U|_,O U _ _|_,O _ 0 _=>pure ()
   | _,.map (A r)=>
    let .map _ clock <-getObj r|stuck "clear: map expected"
    setObj r (.map #[] clock)
   | .slice elem,O (A a) n _=>
    storeCells a (al (<-zeroValue elem).cells n).toList
   | _,_=>stuck "clear: map or slice expected"
   pure (.tuple #[])) K h
  rw[Zk,ZH hu]
  cases k with
  | zero=>
   have h0:MH=[]:=a7 (by rw[hl];simp);subst h0;have:=H [] rfl;rw[same]at this;exact this
  | succ k=>
   obtain⟨i0,PK⟩:∃i,P.info? e'=A i:=by
    unfold tz at hz
    cases hi:P.info? e' with
    | none=>rw[hi]at hz;cases hz
    | some i=>exact⟨i,rfl⟩
   obtain⟨z0,Au,gN⟩:∃z,i0.zero=A z/\z.cells.toList=zs:=by
    unfold tz at hz;rw[PK]at hz
    cases HK:i0.zero with
    | none=>rw[aU,HK]at hz;cases hz
    | some z=>rw[aU,HK]at hz;exact⟨z,rfl,by simpa using hz⟩
   have py:∀{Q:G->Hp->Prop} (g:Hp),hw P (zeroValue e') Q g=Q z0 g:=fun {Q} g=>by
    unfold zeroValue;rw[Zk,X1 PK];simp only[Au];rfl
   simp only[Zk];rw[py];have wm:z0.cells.size=n:=by rw[<-gM,<-gN];simp
   have fv:(al z0.cells (k+1)).toList.length=(J MH):=by rw[be,Xp,wm,hl]
   refine YV (a:=⟨b,off,U⟩) (e:=e') (lo:=0) (hi:=0) rfl (a2 _) _ 0 h (pre++(MH++post)).toArray hb ?_ ?_ ?_
   .simp only[br,ao,fv];omega
   .rw[a9];intro x hx;have hx:x∈al z0.cells (k+1):=by simpa using hx
    have Mj:x∈zs:=by
     rw[<-gN];unfold al at hx;rw[Array.mem_map]at hx;obtain⟨i,hi,rfl⟩:=hx;rw[Array.mem_range]at hi;have Gm:0<z0.cells.size:=by
      rcases Nat.eq_zero_or_pos z0.cells.size with q|q
      .rw[q,Nat.mul_zero]at hi;omega
      .exact q
     have ZS:i%z0.cells.size<z0.cells.size:=Nat.mod_lt _ Gm;rw[getElem!_pos z0.cells _ ZS];simp
    exact a9.1 Bc x Mj
   .simp only[bt];have e1:Y8 (pre++(MH++post)).toArray.toList off (al z0.cells (k+1)).toList=pre++((al z0.cells (k+1)).toList++post):=Sf ho fv;rw[e1];exact H _ fv
 .cases VR
end
section
variable {P:aa} {T:a3} {K:G->Hp->Prop} {F:Env} {h:Hp} {ty:L}
end
section
variable {P:aa} {T:a3} {K:G->Hp->Prop} {F:Env} {h:Hp} {ty:L}
end
section
variable {P:aa} {n:Nat} {T:a3} {N:Env->Hp->Prop} {X:Nat->Env->Hp->Prop} {R:Env->Hp->Prop} {F:Env} {h:Hp}
variable {l:Nat}
end
end Go.V
