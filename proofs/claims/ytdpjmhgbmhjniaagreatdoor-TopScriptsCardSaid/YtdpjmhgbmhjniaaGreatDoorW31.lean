/- Part W31. -/
import Derived.Test.YtdpjmhgbmhjniaaGreatDoorW21
import Derived.Sort.Grow
import Derived.Deep.Draws
import Derived.Lib.UnsafeStr
import Derived.RangeFuncLeaves
import Derived.RangeFuncRecord
import Derived.OrdersIn
import Derived.TacticsIn
import Derived.RangeFuncSeq
import Derived.RangeFuncBound
open Go.Value renaming bool→U,slice→Y,int→Z,pointer→aa
open Go.IntKind renaming i64→L
open Go.Obj renaming cells→bg
open List renaming length→G,length_append→a0,getElem?_toArray→a7,eq_nil_of_length_eq_zero→a9,getElem?_cons_succ→bc,all_eq_true→bf,getElem?_cons_zero→bh,append_assoc→bk,length_cons→bo,length_drop→bG,size_toArray→b3
open Nat renaming le_refl→ba,mul_le_mul_right→bp,add_mul→br,zero_add→bx,add_zero→bz,sub_mul→bD,le_of_ble_eq_true→bL,lt_of_lt_of_le→b0
open Option renaming bind_some→a8,some→A,none→M
open Array renaming getElem?_setIfInBounds→av,size_setIfInBounds→bb,length_toList→bw,getElem?_push_size→bE,getElem?_eq_none→bH,getElem?_modify→bJ,size_replicate→bS,ext_getElem?→bV,size_append→b4
open Bool renaming and_eq_true→al,false_eq_true→bA,not_false→bP,not_true→bT,false_or→bU,not_eq_true'→b2
open Go.Builtin renaming zeroCells→a5,append_→a6,unsafeString_→bK,nextslicecap→bR,clear_→b6
open Go.Region renaming ready→aw,noSelect_spec→be,free_spec→bn,binds→b1,noSelect→b5,wanted→b7,free→b8
open Go renaming Value→J,TypeId→O,Program→am,World→ao,Operand→aI
namespace Go.V
set_option linter.all false
variable{Q:Exit->Act->ao->Prop}{b:Nat}{cb:Array Bool}{ops:Array Oper}{t:O}{x y:aI}
section
variable {P:am} {T:ao} {ty:O} {F:Env} {h:Hp} {K:J->Hp->Prop}
def MV(P:am)(t:O)(m x:J)(c:Bool)(K:J->Hp->Prop)(h:Hp):Prop:=hw P (Instr.lookup t m x c) K h
def pA(P:am)(t:O)(K:J->Hp->Prop)(h:Hp):Prop:=hw P (Instr.makeMap t M) K h
@[go_sem] theorem aL{m:aI}{c:Bool}:Vc P T (.lookup t m x c) ty K F h=MV P t (ev F m) (ev F x) c K h:=by
 show hw P (do pure (Next.value (<-Instr.lookup t (ev F m) (ev F x) c))) (XA P T K) h=_;rw[Ze];rfl
@[go_sem] theorem D4:Vc P T (.makeMap t M) ty K F h=pA P t K h:=by
 show hw P (do pure (Next.value (<-Instr.makeMap t M))) (XA P T K) h=_;rw[Ze];rfl
@[go_sem] theorem Zcq{m:aI}{c:Bool}:HG P T ⟨M,.lookup t m x c,ty, "", #[],M⟩ K F h=MV P t (ev F m) (ev F x) c K h:=aL
@[go_sem] theorem Za0:HG P T ⟨M,.makeMap t M,ty, "", #[],M⟩ K F h=pA P t K h:=D4
@[go_sem] theorem Zgo:pA P t K h=K (.map (A h.size)) (h.push (.map #[] 0)):=rfl
variable {α:Type} [DecidableEq α] {enc:α->List J}
theorem GP{e:O}{v:J}(hz:(P.info? e).bind (·.zero)=A v){Q:J->Hp->Prop}:hw P (zeroValue e) Q h=Q v h:=by
 cases hi:P.info? e with
 | none=>rw[hi]at hz;cases hz
 | some i=>
  rw[hi]at hz;unfold zeroValue;rw[Ze,Y2 hi];have hz:i.zero=A v:=hz;simp only[hz];rfl
theorem D5{v:J}{Q:J->Hp->Prop}(H:Q v h):hw P (Instr.keyThatStays v v) Q h:=by
 unfold Instr.keyThatStays;split
 .exact H
 .rw[Ze];show hw P (choose _) _ h;have e:∀t:Nat,hw P (pure (if t=0 then v else v)) Q h:=fun t=>by rw[ite_self];exact H
  show (if _ then _ else _);split
  .exact e 0
  .exact fun t=>e _
theorem PZ{es:Array MapEntry}{c:Nat}(hm:h[b]? = A (.map es c)){Q:Obj->Hp->Prop}:hw P (getObj b) Q h↔Q (.map es c) h:=
 ⟨fun⟨o,h1,_,h2⟩=>(by rw[hm]at h1;cases h1;exact h2),fun H=>⟨_,hm,rfl,H⟩⟩
end
section
variable {P:am} {n:Nat} {T:ao} {N:Env->Hp->Prop} {X:Nat->Env->Hp->Prop} {R:Env->Hp->Prop} {F:Env} {h:Hp}
def OW(P:am)(T:ao)(ops:Array Oper)(S:Hp->Prop)(W:List Nat)(N:Env->Hp->Prop):Nat->Array Bool->Env->Hp->Prop
 | 0,listed,F,h=>aw .any ops listed=[]/\N F h
 | k+1,listed,F,h=>(aw .any ops listed=[]->N F h) /\
   ∀i∈aw .any ops listed,Qp P T ops i (fun F' h'=>(i∈W\/(S h->S h'))/\OW P T ops S W N k (listed.setIfInBounds i true) F' h') F h
theorem H8{S:Hp->Prop}{W:List Nat}:∀(k:Nat) (listed:Array Bool) (F:Env) (h:Hp),OW P T ops S W N k listed F h->AF P T ops (fun _=>True) N k listed F h:=by
 intro k
 induction k with
 | zero=>intro listed F h H;exact H
 | succ k ih=>intro listed F h H;exact⟨H.1,fun i hi=>Jf (fun F' h' q=>⟨trivial,ih _ _ _ q.2⟩) (H.2 i hi)⟩
theorem Vh{S S1:Hp->Prop}{W:List Nat}{i:Nat}{oi:Oper}{v:J}(hi:ops[i]? = A oi)(Dr:∀(j:Nat) (o:Oper) cs b,ops[j]? = A o->o.op ≠ .select cs b)(hW:(∀h,S1 h)\/((∀h,S h->S1 h)/\∀j∈W,∃f,UN ops f j i=true)):
  ∀(k:Nat) (listed:Array Bool) (F:Env) (h:Hp),JM ops listed ->
   (∀j oj,ops[j]? = A oj->j≠i->listed.getD j true=false->(∀e∈oj.after,b1 .any e=true->e.on≠i)->oi.apart ops oj=true) ->
   i∈aw .any ops listed->QY P T ops S1 oi v F->((∀h,S1 h)\/S h) ->
   OW P T ops S W N k (listed.setIfInBounds i true) (Z5 F oi.dst v) h->OW P T ops S W N (k+1) listed F h:=by
 intro k
 induction k with
 | zero=>
  intro listed F h _ _ hr hy hS H;have hS1:S1 h:=hS.elim (fun q=>q h) (fun q=>hW.elim (fun p=>p h) (fun p=>p.1 h q));refine⟨fun h=>(by rw[h]at hr;cases hr),fun j hj=>?_⟩;by_cases Vb:j=i
  .subst Vb;exact hy.opI hi hS1 ⟨.inr id,H⟩
  .have:=ready_mono hj Vb;rw[H.1]at this
   cases this
 | succ k ih=>
  intro listed F h Jm MM hr hy hS H;have hS1:S1 h:=hS.elim (fun q=>q h) (fun q=>hW.elim (fun p=>p h) (fun p=>p.1 h q));refine⟨fun h=>(by rw[h]at hr;cases hr),fun j hj=>?_⟩;by_cases Vb:j=i
  .subst Vb;exact hy.opI hi hS1 ⟨.inr id,H⟩
  .have h1:=H.2 j (ready_mono hj Vb);obtain⟨Ds,oj,hO,Xc⟩:=mem_ready.1 hj;have FH:∀e∈oj.after,b1 .any e=true->e.on≠i:=fun e he hb heq=>by
    have h1:=Xc e he hb;have h0:=(mem_ready.1 hr).1;rw[heq]at h1;rcases Nat.lt_or_ge i listed.size with h'|h'
    .simp[h']at h0 h1;rw[h0]at h1;cases h1
    .simp[bH h']at h1
   have h2:=Kv hO (MM j oj hO Vb Ds FH) (fun cs b=>Dr i oi cs b hi) (fun cs b=>Dr j oj cs b hO) hy h1;have Kx:∀k ok,ops[k]? = A ok->k≠i->(listed.setIfInBounds j true).getD k true=false ->
     (∀e∈ok.after,b1 .any e=true->e.on≠i)->oi.apart ops ok=true:=fun k ok hk hki hun hno=>by
    refine MM k ok hk hki ?_ hno;by_cases eE:j=k
    .subst eE;exact Ds
    .rw[getD_set_ne true eE]at hun;exact hun
   refine Jf (fun F' h' h3=>?_) h2;refine⟨h3.2.1,ih (listed.setIfInBounds j true) F' h' (Jm.set hj) Kx (ready_mono hr (Ne.symm Vb)) h3.1 ?_ ?_⟩
   .rcases hW with hW|⟨hW1,xh⟩
    .exact .inl hW
    .rcases hS with hS|hS
     .exact .inl hS
     .rcases h3.2.1 with hjw|hss
      .obtain⟨f,hf⟩:=xh j hjw;have h1:=MS Jm hf hj;have h0:=(mem_ready.1 hr).1;rcases Nat.lt_or_ge i listed.size with h'|h'
       .simp[h']at h0 h1;rw[h0]at h1;cases h1
       .simp[bH h']at h1
      .exact .inr (hss hS)
   .rw[Array.setIfInBounds_comm _ _ Vb];exact h3.2.2
inductive Tz where
 | nil
 | p (i:Nat) (t:Tz)
 | q (i:Nat) (t:Tz)
 | s (i:Nat) (t:Tz)
 | w (i:Nat) (t:Tz)
 | or (i:Nat) (t:Tz) (r:Tz)
def Tz.alts:Tz->List Nat
 | .s i _=>[i]
 | .w i _=>[i]
 | .or i _ r=>i :: r.alts
 | _=>[]
def Tz.OR:Tz->Bool
 | .q _ _=>true
 | .p _ t=>t.OR
 | .s _ t=>t.OR
 | .or _ t r=>t.OR||r.OR
 | _=>false
def Tz.ok(ops:Array Oper)(W:List Nat):Tz->Nat->Array Bool->Bool->Bool
 | .nil,n,listed,_=>Nat.beq n 0&&(aw .any ops listed).isEmpty
 | .p _ _,0,_,_=>false
 | .p i t,n+1,listed,_=>((aw .any ops listed).contains i&&b8 .any ops listed i)&&t.ok ops W n (listed.setIfInBounds i true) true
 | .q _ _,0,_,_=>false
 | .q i t,n+1,listed,_=>((aw .any ops listed).contains i&&(b8 .any ops listed i&&W.all fun j=>UN ops fe j i))&&t.ok ops W n (listed.setIfInBounds i true) true
 | .s _ _,0,_,_=>false
 | .s i t,n+1,listed,b=>(!b||(aw .any ops listed == [i]))&&t.ok ops W n (listed.setIfInBounds i true) true
 | .w _ _,0,_,_=>false
 | .w i t,n+1,listed,b=>((!b||(aw .any ops listed == [i]))&&(W.contains i&&!t.OR))&&t.ok ops W n (listed.setIfInBounds i true) true
 | .or _ _ _,0,_,_=>false
 | .or i t r,n+1,listed,b=>(!b||(aw .any ops listed == i :: r.alts))&&(t.ok ops W n (listed.setIfInBounds i true) true&&r.ok ops W (n+1) listed false)
def Do(P:am)(T:ao)(ops:Array Oper)(S:Hp->Prop)(N:Env->Hp->Prop):Tz->Env->Hp->Prop
 | .nil,F,h=>N F h
 | .p i t,F,h=>match ops[i]? with
  | some o=>if Yo ops o F then ∃v,(∀h',HG P T o (fun v' NS=>v'=v/\NS=h') F h')/\Do P T ops S N t (Z5 F o.dst v) h else Do P T ops S N t (Z5 F o.dst undef) h
  | none=>False
 | .q i t,F,h=>match ops[i]? with
  | some o=>if Yo ops o F then ∃v,(∀h',S h'->HG P T o (fun v' NS=>v'=v/\NS=h') F h')/\Do P T ops S N t (Z5 F o.dst v) h else Do P T ops S N t (Z5 F o.dst undef) h
  | none=>False
 | .s i t,F,h=>Qp P T ops i (fun F' h'=>S h'/\Do P T ops S N t F' h') F h
 | .w i t,F,h=>Qp P T ops i (fun F' h'=>Do P T ops S N t F' h') F h
 | .or i t r,F,h=>Qp P T ops i (fun F' h'=>S h'/\Do P T ops S N t F' h') F h/\Do P T ops S N r F h
theorem Ef{S:Hp->Prop}{W:List Nat}(hs:b5 ops=true):∀(t:Tz),
  (∀(k:Nat) (listed:Array Bool) (F:Env) (h:Hp),JM ops listed->t.ok ops W k listed true=true->(t.OR=true->S h)->Do P T ops S N t F h->OW P T ops S W N k listed F h) /\
  (∀(k:Nat) (listed:Array Bool) (F:Env) (h:Hp),JM ops listed->t.ok ops W (k+1) listed false=true->Do P T ops S N t F h->∀j∈t.alts,j∈aw .any ops listed->Qp P T ops j (fun F' h'=>(j∈W\/(S h->S h'))/\OW P T ops S W N k (listed.setIfInBounds j true) F' h') F h):=by
 intro t
 induction t with
 | nil=>
  refine⟨fun k listed F h Jm hB hS H=>?_,fun k listed F h _ _ _ j hj=>by cases hj⟩;simp only[Tz.ok,al,List.isEmpty_iff]at hB;obtain⟨h1,h2⟩:=hB;obtain rfl:=Nat.eq_of_beq_eq_true h1;exact⟨h2,H⟩
 | p i t ih=>
  refine⟨fun k listed F h Jm hB hS H=>?_,fun k listed F h _ _ _ j hj=>by cases hj⟩
  cases k with
  | zero=>simp[Tz.ok]at hB
  | succ k=>
   simp only[Tz.ok,al]at hB;obtain⟨⟨h1,h2⟩,h3⟩:=hB;have PM:i∈aw .any ops listed:=by simpa using h1
   obtain⟨_,o,ho,_⟩:=mem_ready.1 PM;simp only[Do,ho]at H;split at H
   .rename_i LM;obtain⟨v,hv,H⟩:=H;exact Vh (S1:=fun _=>True) ho (be hs) (.inl fun _=>trivial) k listed F h Jm (bn ho h2) PM (.inl ⟨LM,fun h' _=>hv h'⟩) (.inl fun _=>trivial) (ih.1 k _ _ _ (Jm.set PM) h3 hS H)
   .rename_i LM;exact Vh (S1:=fun _=>True) ho (be hs) (.inl fun _=>trivial) k listed F h Jm (bn ho h2) PM (.inr ⟨by simpa using LM,rfl⟩) (.inl fun _=>trivial) (ih.1 k _ _ _ (Jm.set PM) h3 hS H)
 | q i t ih=>
  refine⟨fun k listed F h Jm hB hS H=>?_,fun k listed F h _ _ _ j hj=>by cases hj⟩;have hS:=hS rfl
  cases k with
  | zero=>simp[Tz.ok]at hB
  | succ k=>
   simp only[Tz.ok,al]at hB;obtain⟨⟨h1,h2,hw⟩,h3⟩:=hB;have PM:i∈aw .any ops listed:=by simpa using h1
   obtain⟨_,o,ho,_⟩:=mem_ready.1 PM;have hW:∀j∈W,∃f,UN ops f j i=true:=fun j hj=>⟨fe,bf.1 hw j hj⟩
   simp only[Do,ho]at H;split at H
   .rename_i LM;obtain⟨v,hv,H⟩:=H;exact Vh ho (be hs) (.inr ⟨fun _ q=>q,hW⟩) k listed F h Jm (bn ho h2) PM (.inl ⟨LM,hv⟩) (.inr hS) (ih.1 k _ _ _ (Jm.set PM) h3 (fun _=>hS) H)
   .rename_i LM;exact Vh ho (be hs) (.inr ⟨fun _ q=>q,hW⟩) k listed F h Jm (bn ho h2) PM (.inr ⟨by simpa using LM,rfl⟩) (.inr hS) (ih.1 k _ _ _ (Jm.set PM) h3 (fun _=>hS) H)
 | s i t ih=>
  have second:∀(k:Nat) (listed:Array Bool) (F:Env) (h:Hp),JM ops listed->i∈aw .any ops listed->t.ok ops W k (listed.setIfInBounds i true) true=true->Do P T ops S N (.s i t) F h->Qp P T ops i (fun F' h'=>(i∈W\/(S h->S h'))/\OW P T ops S W N k (listed.setIfInBounds i true) F' h') F h:=by
   intro k listed F h Jm PM hB H;exact Jf (fun F' h' q=>⟨.inr fun _=>q.1,ih.1 k _ _ _ (Jm.set PM) hB (fun _=>q.1) q.2⟩) H
  refine⟨fun k listed F h Jm hB hS H=>?_,fun k listed F h Jm hB H j hj hr=>?_⟩
  .cases k with
   | zero=>simp[Tz.ok]at hB
   | succ k=>
    simp only[Tz.ok,al,bT,bU,beq_iff_eq]at hB;refine⟨fun h0=>(by rw[hB.1]at h0;cases h0),fun j hj=>?_⟩;have hr:=hj;rw[hB.1]at hj;have hj:j=i:=by simpa using hj
    subst hj;exact second k listed F h Jm hr hB.2 H
  .simp only[Tz.ok,al]at hB;have hj:j=i:=by simpa [Tz.alts] using hj
   subst hj;exact second k listed F h Jm hr hB.2 H
 | w i t ih=>
  have second:∀(k:Nat) (listed:Array Bool) (F:Env) (h:Hp),JM ops listed->i∈aw .any ops listed->i∈W->t.OR=false->t.ok ops W k (listed.setIfInBounds i true) true=true->Do P T ops S N (.w i t) F h->Qp P T ops i (fun F' h'=>(i∈W\/(S h->S h'))/\OW P T ops S W N k (listed.setIfInBounds i true) F' h') F h:=by
   intro k listed F h Jm PM hw hq hB H;exact Jf (fun F' h' q=>⟨.inl hw,ih.1 k _ _ _ (Jm.set PM) hB (fun e=>by rw[hq]at e;cases e) q⟩) H
  refine⟨fun k listed F h Jm hB hS H=>?_,fun k listed F h Jm hB H j hj hr=>?_⟩
  .cases k with
   | zero=>simp[Tz.ok]at hB
   | succ k=>
    simp only[Tz.ok,al,bT,bU,beq_iff_eq,b2]at hB;obtain⟨⟨h1,h2,h3⟩,h4⟩:=hB;refine⟨fun h0=>(by rw[h1]at h0;cases h0),fun j hj=>?_⟩;have hr:=hj;rw[h1]at hj;have hj:j=i:=by simpa using hj
    subst hj;exact second k listed F h Jm hr (by simpa using h2) h3 h4 H
  .simp only[Tz.ok,al,b2]at hB;obtain⟨⟨h1,h2,h3⟩,h4⟩:=hB;have hj:j=i:=by simpa [Tz.alts] using hj
   subst hj;exact second k listed F h Jm hr (by simpa using h2) h3 h4 H
 | or i t r iht ihr=>
  have second:∀(k:Nat) (listed:Array Bool) (F:Env) (h:Hp),JM ops listed->t.ok ops W k (listed.setIfInBounds i true) true=true->r.ok ops W (k+1) listed false=true->Do P T ops S N (.or i t r) F h->∀j∈(Tz.or i t r).alts,j∈aw .any ops listed->Qp P T ops j (fun F' h'=>(j∈W\/(S h->S h'))/\OW P T ops S W N k (listed.setIfInBounds j true) F' h') F h:=by
   intro k listed F h Jm hB hR H j hj hr;rcases List.mem_cons.1 hj with hj|hj
   .subst hj;exact Jf (fun F' h' q=>⟨.inr fun _=>q.1,iht.1 k _ _ _ (Jm.set hr) hB (fun _=>q.1) q.2⟩) H.1
   .exact ihr.2 k listed F h Jm hR H.2 j hj hr
  refine⟨fun k listed F h Jm hB hS H=>?_,fun k listed F h Jm hB H j hj hr=>?_⟩
  .cases k with
   | zero=>simp[Tz.ok]at hB
   | succ k=>
    simp only[Tz.ok,al,bT,bU,beq_iff_eq]at hB;refine⟨fun h0=>(by rw[hB.1]at h0;cases h0),fun j hj=>?_⟩;have hr:=hj;rw[hB.1]at hj;exact second k listed F h Jm hB.2.1 hB.2.2 H j hj hr
  .simp only[Tz.ok,al]at hB;exact second k listed F h Jm hB.2.1 hB.2.2 H j hj hr
def Eg(P:am)(T:ao)(op:Op)(ty:O)(C:J->Prop)(F:Env):Prop:=
 match op with
 | .load _ _=>False
 | op=>VY P T 0 #[] op ty C F
theorem GQ{op:Op}{ty:O}{C:J->Prop}(H:Eg P T op ty C F):∃v,(∀h',Vc P T op ty (fun v' NS=>v'=v/\NS=h') F h')/\C v:=by
 cases op<;>first|exact H|exact H.elim
def zPg(P:am)(T:ao)(K:Env->Hp->Prop)(F:Env)(h:Hp)(d:Option Tmp)(op:Op)(ty:O)(v:J)(b:Bool):Prop:=XX v b (Eg P T op ty (fun v=>K (Z5 F d v) h) F) (K (Z5 F d undef) h)
def zP(P:am)(T:ao)(ops:List Oper)(K:Env->Hp->Prop)(F:Env)(h:Hp)(o:Option Oper):Prop:=
 match o with
 | some ⟨d,op,ty,_,_,M⟩=>Eg P T op ty (fun v=>K (Z5 F d v) h) F
 | some ⟨d,op,ty,_,_,A (j,b)⟩=>zPg P T K F h d op ty (Ug ops F j) b
 | none=>False
def HE(P:am)(T:ao)(ops:List Oper)(B:Nat)(h0:Hp)(N:Env->Hp->Prop):Tz->Env->Hp->Prop
 | .nil,F,h=>N F h
 | .p i t,F,h=>zP P T ops (HE P T ops B h0 N t) F h (nth ops i)
 | .q i t,F,h=>wQ P T ops B h0 (HE P T ops B h0 N t) F h (nth ops i)
 | .s i t,F,h=>wS P T ops B h0 (HE P T ops B h0 N t) F h (nth ops i)
 | .w i t,F,h=>wW P T ops (HE P T ops B h0 N t) F h (nth ops i)
 | .or i t r,F,h=>wS P T ops B h0 (HE P T ops B h0 N t) F h (nth ops i)/\HE P T ops B h0 N r F h
theorem aM{ops:List Oper}{B:Nat}{h0:Hp}{N:Env->Hp->Prop}:∀(t:Tz) (F:Env) (h:Hp),HE P T ops B h0 N t F h->Do P T ops.toArray (fun h'=>Zf B h0 h') N t F h:=by
 intro t
 induction t with
 | nil=>intro F h H;exact H
 | p i t ih=>
  intro F h H;simp only[HE]at H;simp only[Do]
  cases ho:nth ops i with
  | none=>rw[ho]at H;exact H.elim
  | some o=>
   rw[Wv ho];rw[ho]at H;obtain⟨d,op,ty,pos,UH,g⟩:=o
   cases g with
   | none=>
    show (if Yo ops.toArray _ F=true then _ else _);rw[if_pos (by rfl)];obtain⟨v,hv,H⟩:=GQ H;exact⟨v,fun h'=>JI (hv h'),ih _ _ H⟩
   | some jb=>
    obtain⟨j,b⟩:=jb;show (if Yo ops.toArray _ F=true then _ else _);rcases Xb ops F d op pos UH j b H with⟨hw,H⟩|⟨hw,H⟩
    .rw[if_pos hw];obtain⟨v,hv,H⟩:=GQ H;exact⟨v,fun h'=>JI (hv h'),ih _ _ H⟩
    .rw[hw,if_neg Dq];exact ih _ _ H
 | q i t ih=>
  intro F h H;simp only[HE]at H;simp only[Do]
  cases ho:nth ops i with
  | none=>rw[ho]at H;exact H.elim
  | some o=>
   rw[Wv ho];rw[ho]at H;obtain⟨d,op,ty,pos,UH,g⟩:=o
   cases g with
   | none=>
    show (if Yo ops.toArray _ F=true then _ else _);rw[if_pos (by rfl)];obtain⟨v,hv,H⟩:=Wn H;exact⟨v,fun h' hs=>JI (hv h' hs),ih _ _ H⟩
   | some jb=>
    obtain⟨j,b⟩:=jb;show (if Yo ops.toArray _ F=true then _ else _);rcases Xb ops F d op pos UH j b H with⟨hw,H⟩|⟨hw,H⟩
    .rw[if_pos hw];obtain⟨v,hv,H⟩:=Wn H;exact⟨v,fun h' hs=>JI (hv h' hs),ih _ _ H⟩
    .rw[hw,if_neg Dq];exact ih _ _ H
 | s i t ih=>intro F h H;exact OT ih H
 | w i t ih=>intro F h H;exact DZ ih H
 | or i t r iht ihr=>intro F h H;exact⟨OT iht H.1,ihr _ _ H.2⟩
def Zgp(n:Nat)(ops:Array Oper)(W:List Nat)(t:Tz):Bool:=T9 n ops&&(b5 ops&&t.ok ops W ops.size (Array.replicate ops.size false) true)
theorem VS.z{id:Nat}{ops:List Oper}(B:Nat)(W:List Nat)(t:Tz)(hm:P.follows .mixedOrders=true)(XM:Zgp n ops.toArray W t=true)(H:HE P T ops B h N t F h):VS P n T (.region id ops.toArray true) N X R F h:=by
 intro a w h1 h2 h3 h4;simp only[Zgp,al]at XM;obtain⟨k1,k2,k3⟩:=XM;refine wp_region_any hm ?_;refine X7 k1 _ _ F h (H8 _ _ _ _ ((Ef (S:=fun h'=>Zf B h h') k2 t).1 _ _ F h (SG _ _) k3 (fun _=>Zf.refl _ _) (aM t F h H))) a _ h1 h2 h3 ⟨h4.heap,h4.tape,h4.os,h4.output⟩
variable {ops:List Oper} {B:Nat} {h0:Hp} {t r:Tz} {i j:Nat} {d:Option Tmp} {op:Op} {ty:O} {pos:String} {UH:Array Edge} {b c:Bool} {v:J} {K:Env->Hp->Prop} {C:J->Prop}
@[go_sem] theorem Zka:HE P T ops B h0 N .nil F h=N F h:=rfl
@[go_sem] theorem Ztr:HE P T ops B h0 N (.p i t) F h=zP P T ops (HE P T ops B h0 N t) F h (nth ops i):=rfl
@[go_sem] theorem Zts:HE P T ops B h0 N (.q i t) F h=wQ P T ops B h0 (HE P T ops B h0 N t) F h (nth ops i):=rfl
@[go_sem] theorem Ztt:HE P T ops B h0 N (.s i t) F h=wS P T ops B h0 (HE P T ops B h0 N t) F h (nth ops i):=rfl
@[go_sem] theorem Ztu:HE P T ops B h0 N (.w i t) F h=wW P T ops (HE P T ops B h0 N t) F h (nth ops i):=rfl
@[go_sem] theorem Znx:HE P T ops B h0 N (.or i t r) F h=(wS P T ops B h0 (HE P T ops B h0 N t) F h (nth ops i)/\HE P T ops B h0 N r F h):=rfl
@[go_sem] theorem Zgq:zP P T ops K F h (A ⟨d,op,ty,pos,UH,M⟩)=Eg P T op ty (wKq K F d h) F:=rfl
@[go_sem] theorem Zgr:zP P T ops K F h (A ⟨d,op,ty,pos,UH,A (j,b)⟩)=zPg P T K F h d op ty (Ug ops F j) b:=rfl
@[go_sem] theorem Zgs:zPg P T K F h d op ty (U c) b=if c=b then Eg P T op ty (wKq K F d h) F else K (Z5 F d undef) h:=rfl
@[go_sem] theorem Zgt:Eg P T (.move x) ty C F=VY P T 0 #[] (.move x) ty C F:=rfl
@[go_sem] theorem Zcr:Eg P T (.assign x) ty C F=VY P T 0 #[] (.assign x) ty C F:=rfl
@[go_sem] theorem ZeS{t:O}{x:aI}{i:Nat}:Eg P T (.fieldAddr t x i) ty C F=VY P T 0 #[] (.fieldAddr t x i) ty C F:=rfl
@[go_sem] theorem Zny{t:O}{x i:aI}:Eg P T (.indexAddr t x i) ty C F=VY P T 0 #[] (.indexAddr t x i) ty C F:=rfl
@[go_sem] theorem Zgu{z:aI}:Eg P T (.pick x y z) ty C F=VY P T 0 #[] (.pick x y z) ty C F:=rfl
@[go_sem] theorem Zkb:Eg P T (.nilCheck x) ty C F=VY P T 0 #[] (.nilCheck x) ty C F:=rfl
@[go_sem] theorem Zkc{op:BinOp}{t t':O}{x y:aI}:Eg P T (.binOp op t x y t') ty C F=VY P T 0 #[] (.binOp op t x y t') ty C F:=rfl
@[go_sem] theorem Znz{op:UnOp}{t:O}{x:aI}:Eg P T (.unOp op t x) ty C F=VY P T 0 #[] (.unOp op t x) ty C F:=rfl
@[go_sem] theorem Zgv{s t:O}{x:aI}:Eg P T (.convert s t x) ty C F=VY P T 0 #[] (.convert s t x) ty C F:=rfl
@[go_sem] theorem Za1{i:Nat}:Eg P T (.extract x i) ty C F=VY P T 0 #[] (.extract x i) ty C F:=rfl
@[go_sem] theorem Zkd{t:O}{x i:aI}:Eg P T (.index t x i) ty C F=VY P T 0 #[] (.index t x i) ty C F:=rfl
@[go_sem] theorem Zke{t:O}{x:aI}{lo hi mx:Option aI}:Eg P T (.slice t x lo hi mx) ty C F=VY P T 0 #[] (.slice t x lo hi mx) ty C F:=rfl
@[go_sem] theorem ZeT{t:O}{parts:Array (Nat × aI)}:Eg P T (.build t parts) ty C F=VY P T 0 #[] (.build t parts) ty C F:=rfl
@[go_sem] theorem Zgw{c:Call}:Eg P T (.call c) ty C F=VY P T 0 #[] (.call c) ty C F:=rfl
end
def XD{β:Type}:List (Int × β)->Int->Option β
 | [],_=>M
 | (a,v) :: r,k=>if a=k then A v else XD r k
def ins{β:Type}:List (Int × β)->Int->β->List (Int × β)
 | [],k,v=>[(k,v)]
 | (a,x) :: r,k,v=>if a=k then (a,v) :: r else (a,x) :: ins r k v
def U2{β γ:Type}(f:β->γ)(l:List (Int × β)):List (Int × γ):=l.map fun x=>(x.1,f x.2)
theorem XI{β γ:Type}(f:β->γ):∀(l:List (Int × β)) (k:Int),XD (U2 f l) k=(XD l k).map f:=by
 intro l k
 induction l with
 | nil=>rfl
 | cons x l ih=>
  obtain⟨a,v⟩:=x;show (if a=k then A (f v) else XD (U2 f l) k)=Option.map f (if a=k then A v else XD l k);rw[ih];split<;>rfl
theorem SI{β γ:Type}(f:β->γ):∀(l:List (Int × β)) (k:Int) (v:β),U2 f (ins l k v)=ins (U2 f l) k (f v):=by
 intro l k v
 induction l with
 | nil=>rfl
 | cons x l ih=>
  obtain⟨a,u⟩:=x;show U2 f (if a=k then (a,v) :: l else (a,u) :: ins l k v)=if a=k then (a,f v) :: U2 f l else (a,f u) :: ins (U2 f l) k (f v)
  split
  .rfl
  .rw[<-ih];rfl
theorem MW{β γ:Type}(f:β->γ)(l:List (Int × β)):(U2 f l).length=(G l):=List.length_map ..
theorem P9{β:Type}:∀(l:List (Int × β)) (k:Int) (v:β),(ins l k v).length=if (XD l k).isSome=true then (G l) else (G l)+1:=by
 intro l k v
 induction l with
 | nil=>rfl
 | cons x l ih=>
  obtain⟨a,u⟩:=x;unfold ins XD;by_cases h:a=k
  .rw[if_pos h,if_pos h];rfl
  .rw[if_neg h,if_neg h,bo,ih,bo];split<;>rfl
theorem fh{β:Type}:∀(l:List (Int × β)) (k j:Int) (v:β),XD (ins l k v) j=if k=j then A v else XD l j:=by
 intro l k j v
 induction l with
 | nil=>rfl
 | cons x l ih=>
  obtain⟨a,u⟩:=x;unfold ins;by_cases h:a=k
  .subst h;rw[if_pos rfl];unfold XD;by_cases hj:a=j
   .rw[if_pos hj,if_pos hj]
   .rw[if_neg hj,if_neg hj,if_neg hj]
  .rw[if_neg h];show (if a=j then A u else XD (ins l k v) j)=if k=j then A v else if a=j then A u else XD l j
   rw[ih];by_cases hj:a=j
   .rw[if_pos hj,if_pos hj,if_neg (fun e=>h (hj.trans e.symm))]
   .rw[if_neg hj,if_neg hj]
theorem Kg{β:Type}{l:List (Int × β)}{k:Int}{v:β}(h:XD l k=A v):(k,v)∈l:=by
 induction l with
 | nil=>cases h
 | cons y l ih=>
  obtain⟨a,u⟩:=y;unfold XD at h;split at h
  .rename_i he
   cases h;subst he;exact List.mem_cons_self
  .exact List.mem_cons_of_mem _ (ih h)
section
variable {P:am} {T:ao} {ty:O} {F:Env} {h:Hp} {K:J->Hp->Prop}
def Ql:Nat->List (Int × J)->List MapEntry
 | _,[]=>[]
 | i,(k,v) :: l=>⟨Z L k,v,i⟩ :: Ql (i+1) l
def XJ(l:List (Int × J)):Obj:=.map (Ql 0 l).toArray (G l)
theorem Wg:∀(l:List (Int × J)) (i:Nat),(Ql i l).length=(G l):=by
 intro l
 induction l with
 | nil=>intro i;rfl
 | cons x l ih=>intro i;obtain⟨k,v⟩:=x;simp[Ql,ih]
def Mb(l:List (Int × J))(k:Int):Nat->Option (Nat × J):=fun j=>match l with
 | []=>M
 | (a,v) :: r=>if k=a then A (j,v) else Mb r k (j+1)
theorem D6(k:Int):∀(l:List (Int × J)) (i j:Nat),Instr.findNow (.int L) (Z L k) (Ql i l) j=A (Mb l k j):=by
 intro l
 induction l with
 | nil=>intro i j;rfl
 | cons x l ih=>
  intro i j;obtain⟨a,v⟩:=x;unfold Ql Instr.findNow Mb;simp only[Instr.sameNow,if_true];by_cases hk:k=a
  .subst hk;simp
  .rw[if_neg hk];have:(k == a)=false:=by simpa using hk
   rw[this];exact ih _ _
theorem pB(k:Int):∀(l:List (Int × J)) (j:Nat),(Mb l k j).map (·.2)=XD l k:=by
 intro l
 induction l with
 | nil=>intro j;rfl
 | cons x l ih=>
  intro j;obtain⟨a,v⟩:=x;unfold Mb XD;by_cases hk:k=a
  .rw[if_pos hk,if_pos hk.symm];rfl
  .rw[if_neg hk,if_neg (fun e=>hk e.symm)];exact ih _
theorem jc{k:Int}:∀{l:List (Int × J)} {j:Nat},Mb l k j=M->∀(v:J),ins l k v=l++[(k,v)]:=by
 intro l
 induction l with
 | nil=>intro j _ v;rfl
 | cons x l ih=>
  intro j h v;obtain⟨a,u⟩:=x;unfold Mb at h;split at h
  .cases h
  .rename_i hk;unfold ins;rw[if_neg (fun e=>hk e.symm),ih h v];rfl
theorem aN(k:Int)(v:J):∀(l:List (Int × J)) (i:Nat),Ql i (l++[(k,v)])=Ql i l++[⟨Z L k,v,i+(G l)⟩]:=by
 intro l
 induction l with
 | nil=>intro i;rfl
 | cons x l ih=>intro i;obtain⟨a,u⟩:=x;simp only[List.cons_append,Ql,ih,bo];congr 4;omega
theorem jd{k:Int}:∀{l:List (Int × J)} {i j:Nat} {n:Nat} {u:J},Mb l k j=A (n,u)->∃m,n=m+j/\m<(G l)/\(Ql i l)[m]? = A ⟨Z L k,u,i+m⟩/\∀v,Ql i (ins l k v)=(Ql i l).set m ⟨Z L k,v,i+m⟩:=by
 intro l
 induction l with
 | nil=>intro i j n u h;cases h
 | cons x l ih=>
  intro i j n u h;obtain⟨a,w⟩:=x;unfold Mb at h;by_cases hk:k=a
  .subst hk;rw[if_pos rfl]at h
   cases h
   exact⟨0,gX,Dq,rfl,fun v=>by unfold ins;rw[if_pos rfl];rfl⟩
  .rw[if_neg hk]at h;obtain⟨m,h1,h2,h3,h4⟩:=ih (i:=i+1) h;refine⟨m+1,gX,by simpa using h2,?_,fun v=>?_⟩
   .simp only[Ql,bc];rw[h3];congr 2;omega
   .unfold ins;rw[if_neg (fun e=>hk e.symm)];simp only[Ql,List.set_cons_succ,h4];congr 3;omega
def MX(P:am)(t:O)(m k x:J)(K:J->Hp->Prop)(h:Hp):Prop:=hw P (Instr.mapUpdate t m k x) (fun _ h=>K undef h) h
@[go_sem] theorem H9{m k:aI}:Vc P T (.mapUpdate t m k x) ty K F h=MX P t (ev F m) (ev F k) (ev F x) K h:=by
 show hw P (do let _ <-Instr.mapUpdate t (ev F m) (ev F k) (ev F x);pure Next.skip) (XA P T K) h=_;rw[Ze];rfl
@[go_sem] theorem aO{m k:aI}:Vc P T (.insert t m k x) ty K F h=MX P t (ev F m) (ev F k) (ev F x) K h:=by
 show hw P (do let _ <-Instr.mapUpdate t (ev F m) (ev F k) (ev F x);pure Next.skip) (XA P T K) h=_;rw[Ze];rfl
@[go_sem] theorem uS{m k:aI}:HG P T ⟨M,.mapUpdate t m k x,ty, "", #[],M⟩ K F h=MX P t (ev F m) (ev F k) (ev F x) K h:=H9
@[go_sem] theorem Zcs{m k:aI}:HG P T ⟨M,.insert t m k x,ty, "", #[],M⟩ K F h=MX P t (ev F m) (ev F k) (ev F x) K h:=aO
def fj(P:am)(t:O):Option O:=match P.underlying t with
 | some (.map k e)=>(match P.underlying k with|some (.int L)=>A e|_=>M)
 | _=>M
theorem OX{e:O}(h:fj P t=A e):∃k,P.underlying t=A (.map k e)/\P.underlying k=A (.int L):=by
 unfold fj at h;split at h
 .rename_i k e' hu;split at h
  .rename_i hk
   cases h
   exact⟨k,hu,hk⟩
  .cases h
 .cases h
def tzv(P:am)(t:O):Option J:=(P.info? t).bind (·.zero)
theorem Oa{k:O}(hk:P.underlying k=A (.int L)){b:Bool}{n:Int}{Q:Unit->Hp->Prop}:hw P (Instr.checkKey b 10000 k (Z L n)) Q h=Q () h:=by
 show hw P (do
  match <-underlying k,(Value.int L n) with
  | .interface _,.iface d x=>
   let info <-typeInfo d
   if !info.comparable then
    if b then runtimePanic (.unhashable d)
    runtimePanic (.error ("hash of unhashable type " ++ (<-typeStr d)))
   Instr.checkKey b 9999 d x
  | .array len elem,.agg cs=>
   for i in [0:len] do Instr.checkKey b 9999 elem (<-part elem cs (i*(<-sizeOf elem)))
  | .struct fields,.agg cs=>
   for f in fields do
    if f.name ≠ "_" then Instr.checkKey b 9999 f.type (<-part f.type cs f.offset)
  | .interface _,.nilIface=>pure ()
  | .interface _,_|.array _ _,_|.struct _,_=>stuck "map key: not a value of its type"
  | _,_=>pure ()) Q h=_
 rw[Ze,Zv hk];rfl
theorem SJ{k:O}(hk:P.underlying k=A (.int L)){n:Int}{l:List (Int × J)}{Q:Option (Nat × J)->Hp->Prop}:hw P (Instr.findKey k (Z L n) (Ql 0 l)) Q h=Q (Mb l n 0) h:=by
 unfold Instr.findKey;rw[Ze,Zv hk];simp only[D6];rfl
theorem YK{e:O}{z:J}{l:List (Int × J)}{n:Int}{c:Bool}(ht:fj P t=A e)(hz:tzv P e=A z)(hm:h[b]? = A (XJ l)):
  MV P t (.map (A b)) (Z L n) c K h=K (if c=true then .tuple #[(XD l n).getD z,U (XD l n).isSome] else (XD l n).getD z) h:=by
 obtain⟨k,hu,hk⟩:=OX ht;unfold MV Instr.lookup;rw[Ze,Zv hu];simp only;rw[Ze];apply propext;rw[PZ hm];simp only;rw[Ze,ZC,Ze,Oa hk,Ze,SJ hk,<-pB n l 0]
 cases Mb l n 0 with
 | none=>
  simp only[Option.map_none,Option.getD_none,Option.isSome_none];rw[Ze];have FK:=fun {Q:J->Hp->Prop}=>GP (P:=P) (h:=h) (Q:=Q) hz;rw[FK]
  cases c<;>exact Iff.rfl
 | some p=>cases c<;>exact Iff.rfl
@[go_sem] theorem Eh{e:O}{z:J}{n:Int}{c:Bool}(ht:fj P t=A e)(hz:tzv P e=A z):
  MV P t (.map M) (Z L n) c K h=K (if c=true then .tuple #[z,U false] else z) h:=by
 obtain⟨k,hu,hk⟩:=OX ht;unfold MV Instr.lookup;rw[Ze,Zv hu];simp only;rw[Ze,ZC,Ze,Oa hk,Ze];have:=fun {Q:Option (Nat × J)->Hp->Prop}=>SJ (P:=P) (h:=h) (k:=k) hk (n:=n) (l:=[]) (Q:=Q);rw[show (#[]:Array MapEntry).toList=Ql 0 [] from rfl,this];simp only[Mb];rw[Ze];have FK:=fun {Q:J->Hp->Prop}=>GP (P:=P) (h:=h) (Q:=Q) hz;rw[FK]
 cases c<;>rfl
theorem Jg{e:O}{l:List (Int × J)}{n:Int}{x:J}(ht:fj P t=A e)(hm:h[b]? = A (XJ l)):
  MX P t (.map (A b)) (Z L n) x K h=K undef (h.setIfInBounds b (XJ (ins l n x))):=by
 obtain⟨k,hu,hk⟩:=OX ht;unfold MX Instr.mapUpdate;rw[Ze,Zv hu];simp only;rw[Ze];apply propext;rw[PZ hm];simp only;rw[Ze,Oa hk,Ze];show hw P (Instr.findKey k (Z L n) (Ql 0 l)) _ h↔_;rw[SJ hk];have st:∀(es:Array MapEntry) (c:Nat) (Q:Unit->Hp->Prop),hw P (setObj b (.map es c)) Q h↔Q () (h.setIfInBounds b (.map es c)):=fun es c Q=>
  ⟨fun H=>H.2,fun H=>⟨⟨_,hm,rfl⟩,H⟩⟩
 cases hp:Mb l n 0 with
 | none=>
  simp only;rw[st];have e1:(Obj.map ((Ql 0 l).toArray.push ⟨Z L n,x,(G l)⟩) ((G l)+1))=XJ (ins l n x):=by
   rw[jc hp x];unfold XJ;rw[aN,List.push_toArray,a0,bx];rfl
  rw[e1]
 | some p=>
  obtain⟨i,u⟩:=p;obtain⟨m,h1,h2,h3,h4⟩:=jd (i:=0) hp;obtain rfl:i=m:=gX;simp only;rw[Ze];have e0:(((Ql 0 l).toArray[i]?).map (·.key)).getD (Z L n)=Z L n:=by
   rw[a7,h3];rfl
  have e2:∀(Q:J->Hp->Prop),hw P (Instr.keyThatStays (Z L n) (Z L n)) Q h=Q (Z L n) h:=fun Q=>by
   unfold Instr.keyThatStays;have:Instr.sameBits 10000 (Z L n) (Z L n)=true:=by simp[Instr.sameBits]
   rw[if_pos this];rfl
  rw[e0,e2,st];have e1:(Obj.map ((Ql 0 l).toArray.modify i fun e=>{ e with key:=Z L n,val:=x }) (G l))=XJ (ins l n x):=by
   unfold XJ;rw[h4 x,bx];have hlen:(ins l n x).length=(G l):=by
    have e5:(Ql 0 (ins l n x)).length=(Ql 0 l).length:=by rw[h4 x];simp
    rw[Wg,Wg]at e5;exact e5
   rw[hlen]
   congr 1
   apply bV;intro j;rw[bJ,a7,a7,List.getElem?_set];by_cases hj:i=j
   .subst hj;rw[if_pos rfl,if_pos rfl,h3,if_pos (by rw[Wg];exact h2)];rw[bx];rfl
   .rw[if_neg hj,if_neg hj]
  rw[e1]
theorem TN{cs:Array Bool}{e:O}{l:List (Int × J)}(ht:fj P t=A e)(hm:h[b]? = A (XJ l)):Sa P T .len #[t] ty cs [.map (A b)] K h=K (Z L (G l)) h:=by
 obtain⟨k,hu,hk⟩:=OX ht;show hw P (do pure (.value (<-Builtin.len_ #[t] ty #[.map (A b)]))) (XA P T K) h=_;rw[Ze];show hw P (do
  match <-underlying t,(Value.map (A b)) with
  | .string,.string s=>pure (goInt s.size)
  | .array n _,_=>pure (goInt n)
  | .pointer arr,_=>
   let .array n _ <-underlying arr|stuck "len: pointer to array expected"
   pure (goInt n)
  | .slice _,Y _ n _=>pure (goInt n)
  | .map _ _,.map M|.chan _ _,.chan M=>pure (goInt 0)
  | .map _ _,.map (A r)=>
   let .map entries _ <-getObj r|stuck "len: map expected"
   pure (goInt entries.size)
  | .chan _ _,.chan (A r)=>
   let .chan _ buf _ _ _ timer <-getObj r|stuck "len: channel expected"
   pure (goInt (if timer then 0 else buf.size))
  | _,_=>stuck "len: string, array, pointer to array, slice, map or channel expected") K h=_
 rw[Ze,Zv hu];simp only;rw[Ze];apply propext;rw[PZ hm];simp only[b3,Wg];exact Iff.rfl
def tkp(P:am)(t:O):Bool:=match P.underlying t with|some (.pointer _)=>true|_=>false
def tkm(P:am)(t:O):Bool:=match P.underlying t with|some (.map _ _)=>true|_=>false
def xj(P:am)(t:O):Bool:=match P.underlying t with|some (.func _ _ _)=>true|_=>false
theorem pC(h:tkp P t=true):∃e,P.underlying t=A (.pointer e):=by
 unfold tkp at h;split at h
 .exact⟨_,aab⟩
 .cases h
theorem pE(h:tkm P t=true):∃k e,P.underlying t=A (.map k e):=by
 unfold tkm at h;split at h
 .exact⟨_,_,aab⟩
 .cases h
theorem D7(h:xj P t=true):∃a b c,P.underlying t=A (.func a b c):=by
 unfold xj at h;split at h
 .exact⟨_,_,_,aab⟩
 .cases h
theorem Ic(ht:tkp P t=true){a:Option Addr}{Q:Bool->Hp->Prop}:hw P (Op.equal t (.pointer a) (aa M)) Q h=Q a.isNone h:=by
 obtain⟨e,hu⟩:=pC ht;unfold Op.equal Op.maxDepth Op.equalIn;rw[Ze,Zv hu]
 cases a<;>rfl
theorem run_eq_map(ht:tkm P t=true){a:Option Nat}{Q:Bool->Hp->Prop}:hw P (Op.equal t (.map a) (.map M)) Q h=Q a.isNone h:=by
 obtain⟨k,e,hu⟩:=pE ht;unfold Op.equal Op.maxDepth Op.equalIn;rw[Ze,Zv hu]
 cases a<;>rfl
theorem GR(ht:xj P t=true){f:Fn}{x y:Array J}{Q:Bool->Hp->Prop}:hw P (Op.equal t (.func f x y) .nilFunc) Q h=Q false h:=by
 obtain⟨a,b,c,hu⟩:=D7 ht;unfold Op.equal Op.maxDepth Op.equalIn;rw[Ze,Zv hu];rfl
theorem GS(ht:xj P t=true){Q:Bool->Hp->Prop}:hw P (Op.equal t .nilFunc .nilFunc) Q h=Q true h:=by
 obtain⟨a,b,c,hu⟩:=D7 ht;unfold Op.equal Op.maxDepth Op.equalIn;rw[Ze,Zv hu];rfl
theorem Ei{a b:J}{r:Bool}(hg:∀{Q:Unit->Hp->Prop},hw P (eqGuard .eql t x y a b) Q h=Q () h)(hb:binOp .eql t a b=do pure (U (<-Op.equal t a b)))(he:∀{Q:Bool->Hp->Prop},hw P (Op.equal t a b) Q h=Q r h):Y1 P .eql t x y a b K h=K (U r) h:=by
 unfold Y1;rw[Ze,hg,hb,Ze,he];rfl
theorem aP{a b:J}{r:Bool}(hg:∀{Q:Unit->Hp->Prop},hw P (eqGuard .neq t x y a b) Q h=Q () h)(hb:binOp .neq t a b=do pure (U (!(<-Op.equal t a b))))(he:∀{Q:Bool->Hp->Prop},hw P (Op.equal t a b) Q h=Q r h):Y1 P .neq t x y a b K h=K (U (!r)) h:=by
 unfold Y1;rw[Ze,hg,hb,Ze,he];rfl
@[go_sem] theorem Za3{a:Option Addr}(ht:tkp P t=true):Y1 P .eql t x y (.pointer a) (aa M) K h=K (U a.isNone) h:=Ei rfl rfl (Ic ht)
@[go_sem] theorem Za4{a:Option Addr}(ht:tkp P t=true):Y1 P .neq t x y (.pointer a) (aa M) K h=K (U (!a.isNone)) h:=aP rfl rfl (Ic ht)
@[go_sem] theorem Za5{a:Option Nat}(ht:tkm P t=true):Y1 P .eql t x y (.map a) (.map M) K h=K (U a.isNone) h:=Ei rfl rfl (run_eq_map ht)
@[go_sem] theorem Zcu{f:Fn}{u v:Array J}(ht:xj P t=true):Y1 P .eql t x y (.func f u v) .nilFunc K h=K (U false) h:=Ei rfl rfl (GR ht)
@[go_sem] theorem Zcv(ht:xj P t=true):Y1 P .eql t x y .nilFunc .nilFunc K h=K (U true) h:=Ei rfl rfl (GS ht)
@[go_sem] theorem Zcw{f:Fn}{u v:Array J}(ht:xj P t=true):Y1 P .neq t x y (.func f u v) .nilFunc K h=K (U true) h:=aP rfl rfl (GR ht)
@[go_sem] theorem Zcx(ht:xj P t=true):Y1 P .neq t x y .nilFunc .nilFunc K h=K (U false) h:=aP rfl rfl (GS ht)
end
inductive D8{α β:Type}(R:α->β->Prop):List α->List β->Prop
 | nil:D8 R [] []
 | cons {a:α} {b:β} {l:List α} {k:List β}:R a b->D8 R l k->D8 R (a :: l) (b :: k)
section
variable {τ:Type}
structure Kp(S:τ->Prop)(o:Nat->Option τ)(h:Hp)(o':Nat->Option τ)(h':Hp):Prop where
 size:h.size<=h'.size
 Zd:∀b,b<h.size->(∀t,o b=A t->¬S t)->h'[b]? = h[b]? /\ o' b=o b
 stay:∀b,b<h.size->∀t,o b=A t->S t->∃t',o' b=A t'/\S t'
 new:∀b,h.size<=b->∀t,o' b=A t->S t
 Ya:∀b,h'.size<=b->o' b=M
variable {S S':τ->Prop} {o o' o'':Nat->Option τ} {h h' NS:Hp}
def UO(o:Nat->Option τ)(h:Hp):Prop:=∀b,h.size<=b->o b=M
theorem Kp.refl(d:UO o h)(S:τ->Prop):Kp S o h o h:=
 ⟨ba _,fun _ _ _=>⟨rfl,rfl⟩,fun _ _ t ht hs=>⟨t,ht,hs⟩,fun b hb t ht=>(by rw[d b hb]at ht;cases ht),d⟩
theorem Kp.mono(k:Kp S o h o' h')(hs:∀t,S t->S' t):Kp S' o h o' h':=
 ⟨k.size,fun b hb hn=>k.Zd b hb fun t ht q=>hn t ht (hs t q),fun b hb t ht q=>by
  by_cases p:S t
  .obtain⟨t',h1,h2⟩:=k.stay b hb t ht p;exact⟨t',h1,hs _ h2⟩
  .exact⟨t,by rw[(k.Zd b hb fun u hu=>by rw[ht]at hu;cases hu;exact p).2,ht],q⟩,fun b hb t ht=>hs _ (k.new b hb t ht),k.Ya⟩
theorem Kp.trans(k:Kp S o h o' h')(l:Kp S o' h' o'' NS):Kp S o h o'' NS:=by
 refine⟨Nat.le_trans k.size l.size,fun b hb hn=>?_,fun b hb t ht hs=>?_,fun b hb t ht=>?_,l.Ya⟩
 .obtain⟨h1,h2⟩:=k.Zd b hb hn;obtain⟨h3,h4⟩:=l.Zd b (b0 hb k.size) fun t ht=>hn t (by rw[<-h2];exact ht);exact⟨h3.trans h1,h4.trans h2⟩
 .obtain⟨t',h1,h2⟩:=k.stay b hb t ht hs;exact l.stay b (b0 hb k.size) t' h1 h2
 .by_cases Jc:h'.size<=b
  .exact l.new b Jc t ht
  .have ZL:b<h'.size:=gX
   cases ho:o' b with
   | none=>
    have:=(l.Zd b ZL fun u hu=>by rw[ho]at hu;cases hu).2;rw[this,ho]at ht;cases ht
   | some t1=>
    obtain⟨t2,h1,h2⟩:=l.stay b ZL t1 ho (k.new b hb t1 ho);rw[h1]at ht;cases ht;exact h2
theorem Kp.get(k:Kp S o h o' h'){x:Obj}(hx:h[b]? = A x)(hn:∀t,o b=A t->¬S t):h'[b]? = A x:=by
 rw[(k.Zd b (Za hx) hn).1,hx]
theorem Kp.Zy(k:Kp S o h o' h'){x:Obj}(hx:h[b]? = A x)(hn:∀t,o b=A t->¬S t):o' b=o b:=(k.Zd b (Za hx) hn).2
theorem Kp.free(k:Kp S o h o' h'){x:Obj}(hx:h[b]? = A x)(hn:o b=M):h'[b]? = A x/\o' b=M:=by
 have Pz:∀t,o b=A t->¬S t:=fun t ht=>by rw[hn]at ht;cases ht
 exact⟨k.get hx Pz,(k.Zy hx Pz).trans hn⟩
theorem Kp.Ie(d:UO o h)(b:Zf h.size h h')(S:τ->Prop):Kp S o h o h':=
 ⟨b.size,fun k hk _=>⟨b.block k hk,rfl⟩,fun _ _ t ht hs=>⟨t,ht,hs⟩,fun k hk t ht=>(by rw[d k hk]at ht;cases ht),fun k hk=>d k (Nat.le_trans b.size hk)⟩
theorem Kp.Yb(k:Kp S o h o' h')(b:Zf h'.size h' NS):Kp S o h o' NS:=k.trans (Kp.Ie k.Ya b S)
theorem Kp.push(k:Kp S o h o' h')(x:Obj):Kp S o h o' (h'.push x):=k.Yb ((Zf.refl _ _).add x)
theorem Kp.set(k:Kp S o h o' h'){t:τ}(hb:o' b=A t)(hs:S t)(x:Obj):Kp S o h o' (h'.setIfInBounds b x):=by
 refine k.trans ⟨by rw[bb];exact ba _,fun c hc hn=>⟨?_,rfl⟩,fun _ _ t ht hs=>⟨t,ht,hs⟩,fun c hc t ht=>(by rw[k.Ya c hc]at ht;cases ht),fun c hc=>k.Ya c (by rw[bb]at hc;exact hc)⟩;rw[av,if_neg (fun e=>hn t (by rw[<-e];exact hb) hs)]
theorem Kp.aQ(k:Kp S o h o' h')(hb:h.size<=b)(x:Obj):Kp S o h o' (h'.setIfInBounds b x):=by
 refine⟨by rw[bb];exact k.size,fun c hc hn=>⟨?_,(k.Zd c hc hn).2⟩,k.stay,k.new,fun c hc=>k.Ya c (by rw[bb]at hc;exact hc)⟩;rw[av,if_neg (fun e=>by omega)];exact (k.Zd c hc hn).1
def XY(o:Nat->Option τ)(b:Nat)(t:τ):Nat->Option τ:=fun c=>if c=b then A t else o c
theorem Xj{t:τ}:XY o b t b=A t:=if_pos rfl
theorem Xp{c:Nat}{t:τ}(hc:c≠b):XY o b t c=o c:=if_neg hc
theorem Kp.SK(k:Kp S o h o' h'){t:τ}(hb:h.size<=b)(ZL:b<h'.size)(hs:S t):Kp S o h (XY o' b t) h':=
 ⟨k.size,fun c hc hn=>⟨(k.Zd c hc hn).1,by rw[Xp gX];exact (k.Zd c hc hn).2⟩,fun c hc u hu hsu=>by rw[Xp gX];exact k.stay c hc u hu hsu,
  fun c hc u hu=>by
  by_cases FM:c=b
  .subst FM;rw[Xj]at hu;cases hu;exact hs
  .rw[Xp FM]at hu;exact k.new c hc u hu,
  fun c hc=>by rw[Xp gX];exact k.Ya c hc⟩
def YP(o:Nat->Option τ)(t:τ)(E:O)(n:Nat)(h:Hp)(v:J)(m:Nat)(cs:List J):Prop:=
 ((∃p,v=Y p 0 0)/\m=0/\cs=[]) \/
 ∃b k cap pre Zx,o b=A t/\v=Y (A ⟨b,k,M⟩) m cap/\h[b]? = A (bg (pre++(cs++Zx)).toArray E (0,0))/\(G pre)=k/\(G cs)=m*n/\(G Zx)=(cap-m)*n/\m<=cap
variable {t:τ} {E:O} {n m:Nat} {v:J} {cs:List J}
theorem YP.nil(o:Nat->Option τ)(t:τ)(E:O)(n:Nat)(h:Hp):YP o t E n h (Y M 0 0) 0 []:=.inl ⟨⟨_,rfl⟩,rfl,rfl⟩
theorem YP.Zd(s:YP o t E n h v m cs)(k:Kp S o h o' h')(hn:¬S t):YP o' t E n h' v m cs:=by
 rcases s with s|⟨b,j,cap,pre,Zx,h1,h2,h3,h4,h5,h6,h7⟩
 .exact .inl s
 .have Pz:∀u,o b=A u->¬S u:=fun u hu=>by rw[h1]at hu;cases hu;exact hn
  exact .inr ⟨b,j,cap,pre,Zx,by rw[k.Zy h3 Pz,h1],h2,k.get h3 Pz,h4,h5,h6,h7⟩
theorem YP.sl(s:YP o t E n h v m cs):Sl n h v m cs:=by
 rcases s with⟨⟨p,rfl⟩,rfl,rfl⟩|⟨b,j,cap,pre,Zx,h1,rfl,h3,h4,h5,h6,h7⟩
 .exact⟨p,0,rfl,Dq,fun Ys=>absurd rfl Ys⟩
 .exact Wo h3 h5 h4.symm
theorem YP.length(s:YP o t E n h v m cs):(G cs)=m*n:=by
 rcases s with⟨_,rfl,rfl⟩|⟨b,j,cap,pre,Zx,h1,h2,h3,h4,h5,h6,h7⟩
 .simp
 .exact h5
theorem YP.ZM(s:YP o t E n h v m cs):∃p c,v=Y p m c/\m<=c:=by
 rcases s with⟨⟨p,rfl⟩,rfl,rfl⟩|⟨b,j,cap,pre,Zx,h1,rfl,h3,h4,h5,h6,h7⟩
 .exact⟨p,0,rfl,ba _⟩
 .exact⟨_,cap,rfl,h7⟩
theorem YP.tail{p:Option Addr}{c:Nat}(s:YP o t E n h (Y p m c) m cs){k:Nat}(hk:k<=m):YP o t E n h (Y (if c=k then p else p.map (·.add (k*n))) (m-k) (c-k)) (m-k) (cs.drop (k*n)):=by
 rcases s with⟨⟨q,h1⟩,h2,h3⟩|⟨b,j,cap,pre,Zx,h1,h2,h3,h4,h5,h6,h7⟩
 .simp only[Value.slice.injEq]at h1;obtain⟨rfl,rfl,rfl⟩:=h1;have e:k=0:=gX;subst e;subst h3;exact .inl ⟨⟨_,rfl⟩,rfl,Dq⟩
 .simp only[Value.slice.injEq]at h2;obtain⟨rfl,_,rfl⟩:=h2;have uR:k*n<=m*n:=bp _ hk;by_cases hc:c=k
  .have hm:m=k:=gX;rw[if_pos hc];refine .inl ⟨⟨A ⟨b,j,M⟩,by rw[hc,hm,Nat.sub_self]⟩,gX,?_⟩;exact List.drop_eq_nil_of_le (by rw[h5,hm];exact ba _)
  .rw[if_neg hc];refine .inr ⟨b,j+k*n,c-k,pre++cs.take (k*n),Zx,h1,by rw[Option.map_some,addr_add],?_,?_,?_,?_,gX⟩
   .rw[bk,<-bk (List.take _ _),List.take_append_drop];exact h3
   .rw[a0,List.length_take,h4,h5];omega
   .rw[bG,h5,bD]
   .rw[h6];congr 1;omega
variable {P:am} {T:ao} {K:J->Hp->Prop} {F:Env} {ty:O}
theorem D9{a b c vs:List J}{i:Nat}(hi:i=(G a)+(G b))(hv:(G vs)<=(G c)):YJ (a++(b++c)) i vs=a++((b++vs)++c.drop (G vs)):=by
 subst hi;have e1:a++(b++c)=(a++b)++c:=by rw[bk]
 rw[e1,<-a0,UK,Qe _ _ hv];simp
theorem JX{sT xT E' k bytes:Nat}{s:J}{news zs:List J}(Uh:Js P sT=A E)(KO:P.underlying xT=A (.slice E'))(hn:tn P E=A n)(hz:tz P E=A zs)(DP:zs.length=n)(WR:tb P E=A bytes)(Zy:YP o t E n h v m cs)(d:UO o h)(src:Sl n h s k news)(Xz:news.all Yq=true)(YB:(m+k)*bytes<=140737488355328)(KP:1<=bytes)(H:∀v' o' h',YP o' t E n h' v' (m+k) (cs++news)->Kp (fun u=>u=t) o h o' h'->(∀b,b<h.size->o' b=o b)->K v' h'):Sa P T .append #[sT,xT] ty cb [v,s] K h:=by
 unfold Js at Uh;split at Uh
 .rename_i e' hu;simp only[Option.some.injEq]at Uh;subst Uh;show hw P (do pure (.value (<-a6 #[sT,xT] ty #[v,s]))) (XA P T K) h;rw[Ze];show hw P (a6 #[sT,xT] ty #[v,s]) K h;obtain⟨i0,VX⟩:∃i,P.info? e'=A i:=by
   unfold tn at hn
   cases hi:P.info? e' with
   | none=>rw[hi]at hn;cases hn
   | some i=>exact⟨i,rfl⟩
  have Rw:i0.bytes=bytes:=by unfold tb at WR;rw[VX]at WR;simpa using WR
  obtain⟨z0,GH,DQ⟩:∃z,i0.zero=A z/\z.cells.toList=zs:=by
   unfold tz at hz;rw[VX]at hz
   cases NV:i0.zero with
   | none=>rw[a8,NV]at hz;cases hz
   | some z=>rw[a8,NV]at hz;exact⟨z,rfl,by simpa using hz⟩
  obtain⟨base,cap,hv,As⟩:=Zy.ZM;subst hv;have ay:∀{Q:J->Hp->Prop} (g:Hp),hw P (zeroValue e') Q g=Q z0 g:=fun {Q} g=>by
   unfold zeroValue;rw[Ze,Y2 VX];simp only[GH];rfl
  have Um:news.length=k*n:=by obtain⟨_,_,_,hl,_⟩:=src;exact hl
  simp only[a6,a7,bh,bc,Ze,ZC,Zv hu,Zv KO,run_sizeOf hn,bA,if_false,src.lenOf,bP,if_true];by_cases JL:m+k<=cap
  .rw[if_pos JL,Ze];refine Yi src ?_;rcases Zy with⟨⟨p,h1⟩,h2,h3⟩|⟨b,j,OI,pre,Zx,h1,h2,h3,h4,h5,h6,h7⟩
   .simp only[Value.slice.injEq]at h1;obtain⟨rfl,rfl,rfl⟩:=h1;have hk:k=0:=gX;subst hk;subst h3;have Ys:news=[]:=a9 (by simpa using Um);subst Ys;have hK:K (.slice base (0+0) 0) h:=H _ o h (.inl ⟨⟨_,rfl⟩,rfl,rfl⟩) (Kp.refl d _) (fun _ _=>rfl)
    cases base<;>exact hK
   .simp only[Value.slice.injEq]at h2;obtain⟨rfl,_,rfl⟩:=h2;simp only[Ze,addr_add];have Wt:news.length<=Zx.length:=by rw[Um,h6];exact bp _ gX
    refine Yt (e:=e') (lo:=0) (hi:=0) rfl (ba _) news 0 h (pre++(cs++Zx)).toArray h3 ?_ Xz ?_
    .simp;rw[h4,<-h5];omega
    .simp only[ZC,bz];refine H _ o _ (.inr ⟨b,j,cap,pre,Zx.drop news.length,h1,rfl,?_,h4,?_,?_,JL⟩) ((Kp.refl d (fun u=>u=t)).set h1 rfl _) (fun _ _=>rfl)
     .rw[av,if_pos rfl,if_pos (Za h3)];rw[D9 (by rw[h4,h5]) Wt]
     .rw[a0,h5,Um,br]
     .rw[bG,h6,Um,<-bD];congr 1;omega
  .rw[if_neg JL];have QQ:¬bR (m+k) cap*i0.bytes>2 ^ 48:=by
    rw[Rw];have:=Us (m+k) cap bytes gX YB;omega
   have FU:¬i0.bytes=0:=by rw[Rw];omega
   simp only[Ze,Y2 VX,FU,or_false,and_false,if_false,if_neg QQ];intro q;obtain⟨c,hc⟩:=ZD (Question.cut (Question.appendCap (m+k) cap e') q);have iO:m+k<=c:=by rw[hc];simp only[Question.cut];omega
   rw[<-hc];have Sy:∀{Q:Unit->Hp->Prop} (b:Nat) (g:Hp),Q () g->hw P (askRoom b) Q g:=fun {Q} b g q=>by
    unfold askRoom;split<;>exact q
   refine Sy _ _ (Yi Zy.sl (Yi src ?_));rw[ay];have iP:z0.cells.size=n:=by rw[<-DP,<-DQ];simp
   refine H (.slice (A ⟨h.size,0,M⟩) (m+k) c) (XY o h.size t) _ (.inr ⟨h.size,0,c,[],(a5 z0.cells (c-(m+k))).toList,Xj,rfl,?_,rfl,?_,?_,iO⟩) (((Kp.refl d _).push _).SK (ba _) Dq rfl) (fun b hb=>Xp gX)
   .rw[bE];simp
   .rw[a0,Zy.length,Um,br]
   .rw[bw,YL,iP]
 .cases Uh
theorem If{sT xT E' k off cap:Nat}{s:J}{pre Zx news zs:List J}(Uh:Js P sT=A E)(KO:P.underlying xT=A (.slice E'))(hn:tn P E=A n)(hz:tz P E=A zs)(hb:h[b]? = A (bg (pre++(cs++Zx)).toArray E (0,0)))(ho:off=(G pre))(hl:(G cs)=m*n)(src:Sl n h s k news)(Xz:news.all Yq=true)(JL:m+k<=cap)(YB:k*n<=(G Zx))(H:K (Y (A ⟨b,off,M⟩) (m+k) cap) (h.setIfInBounds b (bg (pre++((cs++news)++Zx.drop (k*n))).toArray E (0,0)))):Sa P T .append #[sT,xT] ty cb [Y (A ⟨b,off,M⟩) m cap,s] K h:=by
 unfold Js at Uh;split at Uh
 .rename_i e' hu;simp only[Option.some.injEq]at Uh;subst Uh;show hw P (do pure (.value (<-a6 #[sT,xT] ty #[Y (A ⟨b,off,M⟩) m cap,s]))) (XA P T K) h;rw[Ze];show hw P (a6 #[sT,xT] ty #[Y (A ⟨b,off,M⟩) m cap,s]) K h;obtain⟨i0,VX⟩:∃i,P.info? e'=A i:=by
   unfold tn at hn
   cases hi:P.info? e' with
   | none=>rw[hi]at hn;cases hn
   | some i=>exact⟨i,rfl⟩
  obtain⟨z0,GH,DQ⟩:∃z,i0.zero=A z/\z.cells.toList=zs:=by
   unfold tz at hz;rw[VX]at hz
   cases NV:i0.zero with
   | none=>rw[a8,NV]at hz;cases hz
   | some z=>rw[a8,NV]at hz;exact⟨z,rfl,by simpa using hz⟩
  have Um:(G news)=k*n:=by obtain⟨_,_,_,hl,_⟩:=src;exact hl
  simp only[a6,a7,bh,bc,Ze,ZC,Zv hu,Zv KO,run_sizeOf hn,bA,if_false,src.lenOf,bP,if_true];rw[if_pos JL,Ze];refine Yi src ?_;simp only[Ze,addr_add];refine Yt (e:=e') (lo:=0) (hi:=0) rfl (ba _) news 0 h (pre++(cs++Zx)).toArray hb ?_ Xz ?_
  .simp;rw[ho,hl.symm];omega
  .simp only[ZC,bz];have e:YJ (pre++(cs++Zx)) (off+m*n) news=pre++((cs++news)++Zx.drop (k*n)):=by
    rw[D9 (by rw[ho,hl]) gX,Um]
   rw[e];exact H
 .cases Uh
theorem Mc{sT:O}{zs:List J}{off k c:Nat}{pre old post:List J}(Uh:Js P sT=A E)(hz:tz P E=A zs)(DP:(G zs)=n)(Ej:zs.all Yq=true)(hb:h[b]? = A (bg (pre++(old++post)).toArray E (0,0)))(ho:off=(G pre))(hl:(G old)=k*n)(H:∀new:List J,(G new)=(G old)->K (.tuple #[]) (h.setIfInBounds b (bg (pre++(new++post)).toArray E (0,0)))):Sa P T .clear #[sT] ty cb [Y (A ⟨b,off,M⟩) k c] K h:=by
 unfold Js at Uh;split at Uh
 .rename_i e' hu;simp only[Option.some.injEq]at Uh;subst Uh;show hw P (do pure (.value (<-b6 #[sT] ty #[Y (A ⟨b,off,M⟩) k c]))) (XA P T K) h;rw[Ze];show hw P (b6 #[sT] ty #[Y (A ⟨b,off,M⟩) k c]) K h;have same:h.setIfInBounds b (bg (pre++(old++post)).toArray e' (0,0))=h:=by
   apply bV;intro j;rw[av];by_cases hj:b=j
   .subst hj;rw[if_pos rfl,if_pos (Za hb),hb]
   .rw[if_neg hj]
  show hw P (do
   match <-underlying sT,(Value.slice (A ⟨b,off,M⟩) k c) with
   | _,.map M|_,Y M _ _|_,Y _ 0 _=>pure ()
   | _,.map (A r)=>
    let .map _ clock <-getObj r|stuck "clear: map expected"
    setObj r (.map #[] clock)
   | .slice elem,Y (A a) n _=>
    storeCells a (a5 (<-zeroValue elem).cells n).toList
   | _,_=>stuck "clear: map or slice expected"
   pure (.tuple #[])) K h
  rw[Ze,Zv hu]
  cases k with
  | zero=>
   have h0:old=[]:=a9 (by rw[hl];simp);subst h0;have:=H [] rfl;rw[same]at this;exact this
  | succ k=>
   obtain⟨i0,VX⟩:∃i,P.info? e'=A i:=by
    unfold tz at hz
    cases hi:P.info? e' with
    | none=>rw[hi]at hz;cases hz
    | some i=>exact⟨i,rfl⟩
   obtain⟨z0,GH,DQ⟩:∃z,i0.zero=A z/\z.cells.toList=zs:=by
    unfold tz at hz;rw[VX]at hz
    cases NV:i0.zero with
    | none=>rw[a8,NV]at hz;cases hz
    | some z=>rw[a8,NV]at hz;exact⟨z,rfl,by simpa using hz⟩
   have ay:∀{Q:J->Hp->Prop} (g:Hp),hw P (zeroValue e') Q g=Q z0 g:=fun {Q} g=>by
    unfold zeroValue;rw[Ze,Y2 VX];simp only[GH];rfl
   simp only[Ze];rw[ay];have iP:z0.cells.size=n:=by rw[<-DP,<-DQ];simp
   have Dx:(a5 z0.cells (k+1)).toList.length=(G old):=by rw[bw,YL,iP,hl]
   refine Yt (a:=⟨b,off,M⟩) (e:=e') (lo:=0) (hi:=0) rfl (ba _) _ 0 h (pre++(old++post)).toArray hb ?_ ?_ ?_
   .simp only[b3,a0,Dx];omega
   .rw[bf];intro x hx;have hx:x∈a5 z0.cells (k+1):=by simpa using hx
    have PA:x∈zs:=by
     rw[<-DQ];unfold a5 at hx;rw[Array.mem_map]at hx;obtain⟨i,hi,rfl⟩:=hx;rw[Array.mem_range]at hi;have KC:0<z0.cells.size:=by
      rcases Nat.eq_zero_or_pos z0.cells.size with q|q
      .rw[q,Nat.mul_zero]at hi;omega
      .exact q
     have ZL:i%z0.cells.size<z0.cells.size:=Nat.mod_lt _ KC;rw[getElem!_pos z0.cells _ ZL];simp
    exact bf.1 Ej x PA
   .simp only[bz];have e1:YJ (pre++(old++post)).toArray.toList off (a5 z0.cells (k+1)).toList=pre++((a5 z0.cells (k+1)).toList++post):=Vg ho Dx;rw[e1];exact H _ Dx
 .cases Uh
end
section
variable {P:am} {T:ao} {K:J->Hp->Prop} {F:Env} {h:Hp} {ty:O}
theorem je(l:List Nat)(hl:∀x∈l,x<256):(((⟨(l.map UInt8.ofNat).toArray⟩:ByteArray).extract 0 (G l)).data.map fun b=>Value.int .u8 b.toNat)=(l.map bv).toArray:=by
 have e:((⟨(l.map UInt8.ofNat).toArray⟩:ByteArray).extract 0 (G l))=⟨(l.map UInt8.ofNat).toArray⟩:=by
  apply ByteArray.ext;rw[ByteArray.data_extract];simp[Array.extract_eq_self_of_le]
 rw[e];simp only[List.map_toArray,List.map_map]
 congr 1
 refine List.map_congr_left (fun x hx=>?_);have:=hl x hx;simp only[Function.comp_apply,bv,UInt8.toNat_ofNat'];congr 1;omega
theorem Ca{sT xT E B n m k bytes:Nat}{v s:J}{cs news zs:List J}(Uh:Js P sT=A E)(KO:P.underlying xT=A .string)(hn:tn P E=A n)(hz:tz P E=A zs)(DP:(G zs)=n)(WR:tb P E=A bytes)(Zy:Own B E n h v m cs)(hB:B<=h.size)(hlen:∀{Q:Nat->Hp->Prop} (g:Hp),hw P (Builtin.lenOf s) Q g=Q k g)(hfc:∀{Q:Array J->Hp->Prop},Q news.toArray h->hw P (Builtin.firstCells n k s) Q h)(Zgy:(G news)=k*n)(Xz:news.all Yq=true)(YB:(m+k)*bytes<=140737488355328)(KP:1<=bytes)(H:∀v' h',Own B E n h' v' (m+k) (cs++news)->Ue (ZJ v) h h'->(∀b,ZJ v'=A b->ZJ v=A b\/h.size<=b)->K v' h'):Sa P T .append #[sT,xT] ty cb [v,s] K h:=by
 unfold Js at Uh;split at Uh
 .rename_i e' hu;simp only[Option.some.injEq]at Uh;subst Uh;show hw P (do pure (.value (<-a6 #[sT,xT] ty #[v,s]))) (XA P T K) h;rw[Ze];show hw P (a6 #[sT,xT] ty #[v,s]) K h;obtain⟨i0,VX⟩:∃i,P.info? e'=A i:=by
   unfold tn at hn
   cases hi:P.info? e' with
   | none=>rw[hi]at hn;cases hn
   | some i=>exact⟨i,rfl⟩
  have Rw:i0.bytes=bytes:=by unfold tb at WR;rw[VX]at WR;simpa using WR
  obtain⟨z0,GH,DQ⟩:∃z,i0.zero=A z/\z.cells.toList=zs:=by
   unfold tz at hz;rw[VX]at hz
   cases NV:i0.zero with
   | none=>rw[a8,NV]at hz;cases hz
   | some z=>rw[a8,NV]at hz;exact⟨z,rfl,by simpa using hz⟩
  have ic:∃base cap,v=Y base m cap:=by
   rcases Zy with⟨⟨p,rfl⟩,rfl,_⟩|⟨b,cap,sp,_,rfl,_⟩
   .exact⟨_,_,rfl⟩
   .exact⟨_,_,rfl⟩
  obtain⟨base,cap,hv⟩:=ic;subst hv;have ay:∀{Q:J->Hp->Prop} (g:Hp),hw P (zeroValue e') Q g=Q z0 g:=fun {Q} g=>by
   unfold zeroValue;rw[Ze,Y2 VX];simp only[GH];rfl
  simp only[a6,a7,bh,bc,Ze,ZC,Zv hu,Zv KO,run_sizeOf hn,bA,if_false,hlen,bP,if_true];by_cases JL:m+k<=cap
  .rw[if_pos JL,Ze];refine hfc ?_;have Um:=Zgy;by_cases Ys:news=[]
   .subst Ys;have OH:hw P (match base with|some a=>(do storeCells (a.add (m*n)) [];pure (Value.slice base (m+k) cap))|none=>pure (Value.slice base (m+k) cap)) K h=K (Y base (m+k) cap) h:=by
     cases base<;>rfl
    have hK:K (Y base (m+k) cap) h:=by
     refine H _ _ ?_ Ue.refl (fun b hb=>.inl (by
      cases base with
      | none=>simp[ZJ]at hb
      | some a=>simpa [ZJ] using hb))
     rcases Zy with⟨⟨p,h1⟩,h2,h3⟩|⟨b,OI,Zx,OJ,h1,hb,hl,TM,As⟩
     .simp only[Value.slice.injEq]at h1;obtain⟨rfl,rfl,rfl⟩:=h1;have hk:k=0:=gX;subst hk;subst h3;exact .inl ⟨⟨_,rfl⟩,rfl,rfl⟩
     .simp only[Value.slice.injEq]at h1;obtain⟨rfl,_,rfl⟩:=h1;have az:k*n=0:=by simpa using Um.symm
      refine .inr ⟨b,cap,Zx,OJ,rfl,by simpa using hb,by rw[List.append_nil,hl,br,az];rfl,?_,JL⟩;rw[TM,bD,bD,br,az,bz]
    cases base<;>exact hK
   rcases Zy with⟨⟨p,h1⟩,h2,h3⟩|⟨b,OI,Zx,OJ,h1,hb,hl,TM,As⟩
   .simp only[Value.slice.injEq]at h1;obtain⟨rfl,rfl,rfl⟩:=h1;have hk:k=0:=gX;subst hk;exact (Ys (a9 (by simpa using Um))).elim
   .simp only[Value.slice.injEq]at h1;obtain⟨rfl,_,rfl⟩:=h1;simp only[Ze,addr_add];have Wt:(G news)<=(G Zx):=by rw[Um,TM];exact bp _ gX
    refine Yt (e:=e') (lo:=0) (hi:=0) rfl (ba _) news 0 h (cs++Zx).toArray hb ?_ Xz ?_
    .simp;rw[<-hl];omega
    .simp only[ZC,bx,bz];refine H _ _ (.inr ⟨b,cap,Zx.drop (G news),OJ,rfl,?_,?_,?_,JL⟩) ⟨Dq,fun b' Jc hx=>?_⟩ (fun b' Jc=>.inl (by simpa [ZJ] using Jc))
     .rw[av,if_pos rfl,if_pos (Za hb)];rw[<-hl,UK,Qe _ _ Wt,bk]
     .rw[a0,hl,Um,br]
     .rw[bG,TM,Um,<-bD];congr 1;omega
     .rw[av,if_neg];intro e;subst e;have wG:cap≠0:=by
       intro h0;subst h0;have:k=0:=gX;subst this;exact Ys (a9 (by simpa using Um))
      exact hx (by simp[ZJ,wG])
  .rw[if_neg JL];have QQ:¬bR (m+k) cap*i0.bytes>2 ^ 48:=by
    rw[Rw];have:=Us (m+k) cap bytes gX YB;omega
   have FU:¬i0.bytes=0:=by rw[Rw];omega
   simp only[Ze,Y2 VX,FU,or_false,and_false,if_false,if_neg QQ];intro t;obtain⟨c,hc⟩:=ZD (Question.cut (Question.appendCap (m+k) cap e') t);have iO:m+k<=c:=by rw[hc];simp only[Question.cut];omega
   rw[<-hc];have Sy:∀{Q:Unit->Hp->Prop} (b:Nat) (g:Hp),Q () g->hw P (askRoom b) Q g:=fun {Q} b g q=>by
    unfold askRoom;split<;>exact q
   refine Sy _ _ (Yi Zy.sl (hfc ?_));rw[ay];have iP:z0.cells.size=n:=by rw[<-DP,<-DQ];simp
   refine H (Y (A ⟨h.size,0,M⟩) (m+k) c) _ (.inr ⟨h.size,c,(a5 z0.cells (c-(m+k))).toList,hB,rfl,?_,?_,?_,iO⟩) (Ue.push _) (fun b' Jc=>.inr (by simp only[ZJ]at Jc;split at Jc;cases Jc;rw[<-Option.some.inj Jc];exact ba _))
   .rw[bE];simp
   .have Um:=Zgy;have Jm:(G cs)=m*n:=by obtain⟨_,_,_,hl,_⟩:=Zy.sl;exact hl
    rw[a0,Jm,Um,br]
   .rw[bw,YL,iP]
 .cases Uh
theorem aR{sT xT E B:Nat}{v:J}{l k:List Nat}{z:J}(Uh:Js P sT=A E)(KO:P.underlying xT=A .string)(hn:tn P E=A 1)(hz:tz P E=A [z])(WR:tb P E=A 1)(Zy:Yd B E h v l)(hB:B<=h.size)(hk:∀x∈k,x<256)(YB:(G l)+(G k)<=140737488355328)(H:∀v' h',Yd B E h' v' (l++k)->Zf B h h'->Ue (ZJ v) h h'->(∀b,ZJ v'=A b->ZJ v=A b\/h.size<=b)->K v' h'):Sa P T .append #[sT,xT] ty cb [v,.string ⟨(k.map UInt8.ofNat).toArray⟩] K h:=by
 refine Ca (k:=(G k)) (news:=k.map bv) Uh KO hn hz rfl WR Zy.Zy hB (fun {Q} g=>?_) (fun {Q} q=>?_) Dq (Vz k) gX (ba _) ?_
 .show Q (ByteArray.size ⟨(k.map UInt8.ofNat).toArray⟩) g=_;simp[ByteArray.size]
 .show Q _ h;rw[je k hk];exact q
 intro v' h' ho hb H5;refine H v' h' ⟨by simpa using ho,fun x hx=>?_⟩ (hb.Yb hB Zy.Zy.ZQ) hb H5;rcases List.mem_append.1 hx with hx|hx
 .exact Zy.byte x hx
 .exact hk x hx
end
theorem Zc.SL{P:am}{T:ao}{f:FuncId}{args:Array J}{h:Hp}{Q:J->Hp->Prop}(H:∀w,Je T w h->Calls P f args w fun e w'=>∃v,e=.returned v/\w'.tape=w.tape/\w'.os=w.os/\w'.output=w.output/\Q v w'.heap):Zc P T f args h Q:=
 fun w hs=>(H w hs).mono fun _ w' ⟨v,he,h1,h2,h3,q⟩=>⟨v,w'.heap,he,⟨rfl,h1.trans hs.tape,h2.trans hs.os,h3.trans hs.output⟩,q⟩
theorem Zf.app{B:Nat}{h:Hp}(os:Array Obj)(hB:B<=h.size):Zf B h (h++os):=by
 refine⟨Dq,fun b hb=>?_⟩;rw[Array.getElem?_append_left gX]
section
variable {P:am} {T:ao} {K:J->Hp->Prop} {F:Env} {h:Hp} {ty:O}
theorem aS{x:O × Nat}(H7:XN h b=A x){Q:Option (Addr × O)->Hp->Prop}(H:Q M h):hw P (viewAt b) Q h:=by
 unfold viewAt;rw[Ze];show hw P (if (XN h b).isSome=true then _ else _) Q h;rw[H7];exact H
theorem Cb{x:O × Nat}(H7:XN h b=A x){Q:Option Nat->Hp->Prop}(H:Q (A x.2) h):hw P (cellsIn b) Q h:=by
 unfold cellsIn;rw[Ze];show hw P (match XN h b with|some (_,n)=>_|_=>_) Q h;rw[H7];exact H
theorem Ig{a:Addr}{x:O × Nat}(H7:XN h a.block=A x){Q:Addr->Hp->Prop}(H:Q a h):hw P (Conv.seenAt a) Q h:=by
 unfold Conv.seenAt;rw[Ze];exact aS H7 H
theorem Ih{S D:O}{n:Nat}{a:Addr}{x:O × Nat}(hs:P.underlying S=A (.pointer t))(hd:P.underlying D=A .unsafePointer)(hn:tn P t=A n)(h0:n≠0)(H7:XN h a.block=A x)(Zzc:a.off<x.2)(H:K (aa (A a)) h):V7 P S D (aa (A a)) K h:=by
 unfold V7 convert;rw[Ze,Zv hs,Ze,Zv hd];simp only[Conv.unsafePointer];rw[Ze,Zv hs,Ze,Zv hd];simp only;rw[Ze];refine Ig H7 ?_;rw[Ze];refine Cb H7 ?_;rw[Ze,run_sizeOf hn];rw[if_neg L6];exact H
theorem Md{S D:O}{n:Nat}{a:Addr}{e:O}{c:Nat}(hs:P.underlying S=A .unsafePointer)(hd:P.underlying D=A (.pointer t))(hn:tn P t=A n)(H7:XN h a.block=A (e,c))(hl:liesAt P P.depth e (c/P.cellsOf e) a.off t 1=true)(H:K (aa (A a)) h):V7 P S D (aa (A a)) K h:=by
 unfold V7 convert;rw[Ze,Zv hs,Ze,Zv hd];simp only[Conv.unsafePointer];rw[Ze,Zv hs,Ze,Zv hd];simp only;rw[Ze];refine Ig H7 ?_;rw[Ze,run_sizeOf hn,Ze];unfold variablesAt;simp only[program,Ze,hw];show hw P (match XN h a.block with|some (e,cells)=>_|none=>_) _ h;rw[H7];simp only[hl,ZC,hw,Bool.or_true,if_true,or_true];exact H
theorem Cc{e:O}{n:Nat}{a:Addr}(hu:P.underlying t=A (.pointer e))(hn:tn P e=A n){Q:Bool->Hp->Prop}(H:Q true h):hw P (Op.equal t (aa (A a)) (aa (A a))) Q h:=by
 unfold Op.equal Op.maxDepth Op.equalIn;rw[Ze,Zv hu];simp only;rw[Ze,run_sizeOf hn];unfold sameAddr;simp only[beq_self_eq_true,Bool.or_true,Bool.true_or,if_true,ZC,hw]
 first|exact H|(split<;>exact H)
theorem Ek{e:O}{n:Nat}{a:Addr}(hu:P.underlying t=A (.pointer e))(hn:tn P e=A n)(H:K (U false) h):Y1 P .neq t x y (aa (A a)) (aa (A a)) K h:=by
 unfold Y1;rw[Ze];show hw P (do pure (Value.bool (!(<-Op.equal t (aa (A a)) (aa (A a)))))) K h;rw[Ze];exact Cc hu hn H
theorem El{sT B E:Nat}{v:J}{l:List Nat}(Zy:Yd B E h v l)(Ys:l≠[])(H:∀b cap,v=Y (A ⟨b,0,M⟩) (G l) cap->B<=b->K (aa (A ⟨b,0,M⟩)) h):Sa P T .unsafeSliceData #[sT] ty cb [v] K h:=by
 have hl:(G l)≠0:=by simpa using Ys
 rcases Zy.Zy with⟨⟨p,rfl⟩,h2,_⟩|⟨b,cap,sp,hB,rfl,hb,_,_,As⟩
 .omega
 .show hw P (do pure (.value (<-Builtin.unsafeSliceData_ #[sT] ty #[Y (A ⟨b,0,M⟩) (G l) cap]))) (XA P T K) h;rw[Ze];show hw P (if cap≠0 then (pure (Value.pointer (A ⟨b,0,M⟩)):Sem J) else _) _ h;rw[if_pos gX];exact H b cap rfl hB
theorem run_loadBytes:∀(l:List Nat) (o:Nat) (acc:ByteArray) {Q:ByteArray->Hp->Prop},(∀i,i<(G l)->hc h ⟨b,o+i,M⟩=A (bv (l.getD i 0)))->Q (⟨acc.data++(l.map UInt8.ofNat).toArray⟩) h->hw P (loadBytes ⟨b,o,M⟩ acc (G l)) Q h:=by
 intro l
 induction l with
 | nil=>intro o acc Q _ H;simpa [loadBytes,ZC,hw] using H
 | cons x l ih=>
  intro o acc Q hx H;have h0:=hx 0 Dq;simp only[bo,loadBytes,Ze,load,hw];refine⟨_,h0,?_⟩;refine ih (o+1) _ (fun i hi=>?_) ?_
  .have:=hx (i+1) L6;rw[show o+1+i=o+(i+1) by omega]
   simpa using this
  .simpa [ByteArray.push,Nat.toUInt8] using H
theorem Em{pT iT B E:Nat}{cap:Nat}{l:List Nat}(Zy:Yd B E h (Y (A ⟨b,0,M⟩) (G l) cap) l)(Ys:l≠[])(hp:P.underlying pT=A (.pointer E))(UX:P.cellsOf E=1)(hlen:(G l)<=140737488355328)(H:∀h',Ue (A b) h h'->K (.string ⟨(l.map UInt8.ofNat).toArray⟩) h'):Sa P T .unsafeString #[pT,iT] ty cb [aa (A ⟨b,0,M⟩),Z L (G l)] K h:=by
 have h0:(G l)≠0:=by simpa using Ys
 obtain⟨cells,hb,FJ⟩:∃cells:Array J,h[b]? = A (bg cells E (0,0))/\(∀i,i<(G l)->cells[i]? = A (bv (l.getD i 0)))/\(G l)<=cells.size:=by
  rcases Zy.Zy with⟨⟨p,he⟩,h2,_⟩|⟨b',OI,sp,hB,he,hb,hl,_,As⟩
  .omega
  .simp only[Value.slice.injEq,Option.some.injEq,Addr.mk.injEq]at he;obtain⟨⟨rfl,_⟩,_⟩:=he;refine⟨_,hb,fun i hi=>?_,Dq⟩;simp[hi,List.getElem?_append_left,List.getD_eq_getElem?_getD,List.getElem?_eq_getElem]
 show hw P (do pure (.value (<-bK #[pT,iT] ty #[aa (A ⟨b,0,M⟩),Z L (G l)]))) (XA P T K) h;rw[Ze];have ZnA:bK #[pT,iT] ty #[aa (A ⟨b,0,M⟩),Z L (G l)] =
   (do
     let n <-asInt (Z L (G l))
     if n<0 then runtimePanic (.error "unsafe.String: len out of range")
     if n>IntKind.i64.max then unsupported (.unsafePointer "String: a length above the largest int")
     if n=0 then pure (.string .empty)
     else if <-variablesAt ⟨b,0,M⟩ (<-elemOf pT) n.toNat then do
      let s <-loadBytes ⟨b,0,M⟩ .empty n.toNat
      freeze ⟨b,0,M⟩ n.toNat
      pure (.string s)
     else unsupported (.unsafePointer "String: not so many bytes at ptr")):=rfl
 rw[ZnA];have Eb:IntKind.i64.max=9223372036854775807:=rfl;have H7:XN h b=A (E,cells.size):=by unfold XN;rw[hb]
 have Zgz:=Lib.liesAt_bytes (P:=P) UX (cells.size/P.cellsOf E) (G l) (by rw[UX];simpa using FJ.2);have e1:¬(((G l):Int)<0):=gX;have e2:¬(((G l):Int)>9223372036854775807):=gX;have e3:¬(((G l):Int)=0):=gX;have hel:∀{Q:O->Hp->Prop},hw P (elemOf pT) Q h=Q E h:=by
  intro Q;unfold elemOf;rw[Ze,Zv hp];rfl
 have hva:∀{Q:Bool->Hp->Prop},hw P (variablesAt ⟨b,0,M⟩ E (G l)) Q h=Q true h:=by
  intro Q;unfold variablesAt;rw[Ze];show hw P (do match <-shape b with|some (e,c)=>pure (liesAt P P.depth e (c/P.cellsOf e) 0 E (G l))|none=>pure false) Q h=_;rw[Ze];show hw P (match XN h b with|some (e,c)=>pure (liesAt P P.depth e (c/P.cellsOf e) 0 E (G l))|none=>pure false) Q h=_;rw[H7];simp only[Zgz];rfl
 simp only[asInt,asIntOf,Eb,Ze,ZC,if_neg e1,if_neg e2,if_neg e3,Int.toNat_natCast,hel,hva,if_true];refine run_loadBytes l 0 _ (fun i hi=>?_) ?_
 .rw[Qd hb,bx];exact FJ.1 i hi
 .show K _ (We h ⟨b,0,M⟩ (G l));have e:(⟨ByteArray.empty.data++(l.map UInt8.ofNat).toArray⟩:ByteArray)=⟨(l.map UInt8.ofNat).toArray⟩:=Dq;rw[e];refine H _ ?_;unfold We;rw[if_neg h0];refine⟨Dq,fun k hk Ys=>?_⟩;rw[bJ,if_neg (fun e=>Ys (by rw[<-e]))]
end
def fen(r:Option Nat):Fence:={ Fence.wide with round:=r }
section
variable {P:am} {n:Nat} {T:ao} {N:Env->Hp->Prop} {X:Nat->Env->Hp->Prop} {R:Env->Hp->Prop} {F:Env} {h:Hp}
def VR(P:am)(n:Nat)(T:ao)(l:Option Nat)(c:Code)(N:Env->Hp->Prop)(X:Nat->Env->Hp->Prop)(R:Env->Hp->Prop)(F:Env)(h:Hp):Prop:=
 ∀a w,a.tmps.size=n->a.defers=[]->env a=F->Je T w h->c.wpIn (fen l) 0 P (AE n T N X R) a w
variable {l:Option Nat}
theorem VR.mono{c:Code}{N':Env->Hp->Prop}{X':Nat->Env->Hp->Prop}{R':Env->Hp->Prop}(H:VR P n T l c N X R F h)(hN:∀F h,N F h->N' F h)(hX:∀j F h,X j F h->X' j F h)(hR:∀F h,R F h->R' F h):VR P n T l c N' X' R' F h:=by
 intro a w h1 h2 h3 h4;refine wpIn_mono (H a w h1 h2 h3 h4) (fun e a w ⟨q1,q2,h,q3,q4⟩=>⟨q1,q2,h,q3,?_⟩)
 cases e<;>simp only at q4 ⊢<;>first|exact hN _ _ q4|exact hX _ _ _ q4|exact hR _ _ q4
theorem VR.seq{c d:Code}(H:VR P n T l c (fun F h=>VR P n T l d N X R F h) X R F h):VR P n T l (.seq c d) N X R F h:=by
 intro a w h1 h2 h3 h4;refine wpIn_seq (wpIn_mono (H a w h1 h2 h3 h4) (fun e a w ⟨q1,q2,h,q3,q4⟩=>?_))
 cases e with
 | normal=>exact q4 a w q1 q2 rfl q3
 | exit j=>exact⟨q1,q2,h,q3,q4⟩
 | ret=>exact⟨q1,q2,h,q3,q4⟩
 | _=>exact q4.elim
theorem VR.skip(H:N F h):VR P n T l .skip N X R F h:=by
 intro a w h1 h2 h3 h4;exact wpIn_skip ⟨h1,h2,h,h4,by rw[h3];exact H⟩
theorem VR.ret(H:R F h):VR P n T l .ret N X R F h:=by
 intro a w h1 h2 h3 h4;exact wpIn_ret ⟨h1,h2,h,h4,by rw[h3];exact H⟩
theorem VR.exit{j:Nat}(H:X j F h):VR P n T l (.exit j) N X R F h:=by
 intro a w h1 h2 h3 h4;exact wpIn_exit ⟨h1,h2,h,h4,by rw[h3];exact H⟩
theorem VR.block{j:Nat}{c:Code}(H:VR P n T l c N (fun i F h=>if i=j then N F h else X i F h) R F h):VR P n T l (.block j c) N X R F h:=by
 intro a w h1 h2 h3 h4;refine wpIn_block (wpIn_mono (H a w h1 h2 h3 h4) (fun e a w ⟨q1,q2,h,q3,q4⟩=>?_))
 cases e with
 | normal=>exact⟨q1,q2,h,q3,q4⟩
 | exit i=>
  simp only[Exit.inBlock];simp only at q4;split
  .rename_i HI;rw[if_pos HI]at q4;exact⟨q1,q2,h,q3,q4⟩
  .rename_i HI;rw[if_neg HI]at q4;exact⟨q1,q2,h,q3,q4⟩
 | ret=>exact⟨q1,q2,h,q3,q4⟩
 | _=>exact q4.elim
theorem VR.cond{c:aI}{x y:Code}{b:Bool}(hc:ev F c=U b)(ht:b=true->VR P n T l x N X R F h)(hf:b=false->VR P n T l y N X R F h):
  VR P n T l (.cond c x y) N X R F h:=by
 intro a w h1 h2 h3 h4;exact wpIn_cond_split (t:=b) (by rw[QV,h3];exact hc) (fun hb=>ht hb a w h1 h2 h3 h4) (fun hb=>hf hb a w h1 h2 h3 h4)
def Q0(o:Oper):Bool:=match o.op with|.defer _=>false|_=>true
theorem En{o:Oper}(h:Q0 o=true):∀c,o.op ≠ .defer c:=fun c e=>by
 unfold Q0 at h;rw[e]at h
 cases h
theorem Cd{r:Option Nat}{k:Nat}{f:FuncId}{args:Array J}{w:ao}{Q:Ending->ao->Prop}(h:Calls P f args w Q):CallsIn (fen r) k P f args w Q:=
 (callsIn_wide (n:=k)).2 h
theorem aT{r:Option Nat}{k:Nat}{row:String}{args:Array J}{w:ao}{Q:J->ao->Prop}(h:Rows P row args w Q):RowsIn (fen r) k P row args w Q:=by
 intro c cs _;obtain⟨v,w',q,s⟩:=h c cs;exact⟨v,w',q,stepsIn_wide.2 s⟩
theorem Ii{r:Option Nat}{o:Oper}(hd:Q0 o=true){a:Act}{w:ao}{next:Act->ao->Prop}(H:o.wp P a w next Q):o.wpIn (fen r) 0 P a w next Q:=by
 refine⟨fun _ _=>trivial,?_⟩;rw[Oper.semAt_eq _ _ _ (En hd)];unfold Oper.wp at H;generalize (execOp a.eval o).run P w=x at *
 cases x with
 | ok y w'=>
  cases y with
  | value v=>exact H
  | skip=>exact H
  | defer d=>exact H
  | enter f args=>exact⟨(fun q=>by cases q),Cd H⟩
  | row rw' args=>exact⟨(fun q=>by cases q),aT H⟩
  | _=>exact H.elim
 | halt e w'=>
  cases e with
  | panic v=>exact H
  | _=>exact H.elim
theorem fm:¬LetsOut (AE n T N X R):=fun⟨_,_,_,_,_,_,q⟩=>q
theorem MY{r:Option Nat}(hQ:¬LetsOut Q):∀(l:List Oper),l.all Q0=true->∀a w,wpList P ops Q l a w->wpListIn (fen r) 0 P ops Q l a w:=by
 intro l
 induction l with
 | nil=>intro _ a w H;exact H
 | cons o l ih=>
  intro hd a w H;simp only[List.all_cons,al]at hd;unfold wpListIn;unfold wpList at H;split
  .rename_i hw;rw[if_pos hw]at H;rcases H with H|⟨_,H⟩
   .exact Ii hd.1 (Oper.wp_mono (fun a w q=>ih hd.2 a w q) H)
   .exact absurd H hQ
  .rename_i hw;rw[if_neg hw]at H;exact⟨fun _ _=>trivial,ih hd.2 _ _ H⟩
theorem jf{r:Option Nat}(hQ:¬LetsOut Q)(hd:ops.toList.all Q0=true){i:Nat}{K K':Act->ao->Prop}(hk:∀a w,K a w->K' a w){a:Act}{w:ao}(H:wpOp P ops Q i K a w):wpOpIn (fen r) 0 P ops Q i K' a w:=by
 unfold wpOpIn;unfold wpOp at H
 cases ho:ops[i]? with
 | none=>rw[ho]at H;exact hk _ _ H
 | some o=>
  rw[ho]at H;have hdo:Q0 o=true:=bf.1 hd o (by
   have:=Array.mem_of_getElem? ho
   simpa using this)
  simp only at H ⊢;split
  .rename_i hw;rw[if_pos hw]at H;rcases H with H|⟨_,H⟩
   .exact Ii hdo (Oper.wp_mono hk H)
   .exact absurd H hQ
  .rename_i hw;rw[if_neg hw]at H;exact⟨fun _ _=>trivial,hk _ _ H⟩
theorem aU{r:Option Nat}(hQ:¬LetsOut Q)(hd:ops.toList.all Q0=true){md:Region.Mode}:∀(k:Nat) (listed:Array Bool) (a:Act) (w:ao),wpAny P md ops Q k listed a w->wpAnyIn (fen r) 0 P md ops Q k listed a w:=by
 intro k
 induction k with
 | zero=>intro listed a w H;exact H
 | succ k ih=>
  intro listed a w H;exact⟨H.1,fun i hi=>jf hQ hd (fun a w q=>ih _ a w q) (H.2 i hi)⟩
theorem VR.region{id:Nat}(XM:(T9 n ops&&ops.toList.all Q0)=true)(H:HH P T ops N ops.toList F h):VR P n T l (.region id ops false) N X R F h:=by
 intro a w h1 h2 h3 h4;simp only[al]at XM;exact wpIn_region_list (MY fm _ XM.2 _ _ (QX XM.1 ops.toList F h (fun _ h=>h) H a w h1 h2 h3 h4))
theorem VR.w{id:Nat}{ops:List Oper}(B:Nat)(W:List Nat)(t:RE)(hm:P.follows .mixedOrders=true)(XM:(xe n ops.toArray W t&&ops.all Q0)=true)(H:Ea P T ops B h N t F h):VR P n T l (.region id ops.toArray true) N X R F h:=by
 intro a w h1 h2 h3 h4;simp only[xe,al]at XM;obtain⟨⟨k1,k2,k3⟩,k4⟩:=XM;refine wpIn_region_any hm (aU fm (by simpa using k4) _ _ _ _ ?_);exact X7 k1 _ _ F h (Py _ _ _ _ ((OS (S:=fun h'=>Zf B h h') k2 t).1 _ _ F h (SG _ _) k3 (fun _=>Zf.refl _ _) (KY t F h H))) a _ h1 h2 h3 ⟨h4.heap,h4.tape,h4.os,h4.output⟩
def vr(P:am)(n:Nat)(T:ao)(l:Option Nat):Code->(Env->Hp->Prop)->(Nat->Env->Hp->Prop)->(Env->Hp->Prop)->Env->Hp->Prop
 | .skip,N,_,_,F,h=>N F h
 | .ret,_,_,R,F,h=>R F h
 | .exit j,_,X,_,F,h=>X j F h
 | .seq a b,N,X,R,F,h=>vr P n T l a (fun F h=>vr P n T l b N X R F h) X R F h
 | .cond c a b,N,X,R,F,h=>GF (ev F c) (vr P n T l a N X R F h) (vr P n T l b N X R F h)
 | .block j c,N,X,R,F,h=>vr P n T l c N (fun i F h=>if i=j then N F h else X i F h) R F h
 | .region _ ops false,N,_,_,F,h=>Pa P T ops.toList N ops.toList F h
 | c,N,X,R,F,h=>VR P n T l c N X R F h
def Vi(n:Nat):Code->Bool
 | .seq a b=>Vi n a&&Vi n b
 | .cond _ a b=>Vi n a&&Vi n b
 | .block _ c=>Vi n c
 | .region _ ops false=>T9 n ops&&ops.toList.all Q0
 | _=>true
theorem Jh:∀(c:Code) (N:Env->Hp->Prop) (X:Nat->Env->Hp->Prop) (R:Env->Hp->Prop) (F:Env) (h:Hp),Vi n c=true->vr P n T l c N X R F h->VR P n T l c N X R F h:=by
 intro c
 induction c with
 | skip=>intro N X R F h _ H;exact VR.skip H
 | ret=>intro N X R F h _ H;exact VR.ret H
 | exit j=>intro N X R F h _ H;exact VR.exit H
 | seq a b iha ihb=>
  intro N X R F h XM H;simp only[Vi,al]at XM;exact VR.seq (VR.mono (iha _ _ _ _ _ XM.1 H) (fun F h q=>ihb _ _ _ _ _ XM.2 q) (fun _ _ _ q=>q) (fun _ _ q=>q))
 | cond c a b iha ihb=>
  intro N X R F h XM H;simp only[Vi,al]at XM;simp only[vr,GF]at H;split at H
  .rename_i t ht;refine VR.cond ht (fun hb=>?_) (fun hb=>?_)
   .rw[if_pos hb]at H;exact iha _ _ _ _ _ XM.1 H
   .rw[if_neg (by simp[hb])]at H;exact ihb _ _ _ _ _ XM.2 H
  .exact H.elim
 | block j c ih=>intro N X R F h XM H;exact VR.block (ih _ _ _ _ _ XM H)
 | region id ops draw=>
  intro N X R F h XM H
  cases draw with
  | true=>exact H
  | false=>exact VR.region XM (by simpa using Qc _ _ _ H)
 | _=>intro N X R F h _ H;exact H
def Za8(P:am)(n:Nat)(T:ao)(l:Option Nat)(b:Code)(N:Env->Hp->Prop)(X:Nat->Env->Hp->Prop)(R:Env->Hp->Prop):Env->Hp->Prop:=fun F h=>vr P n T l b N X R F h
def pF(P:am)(n:Nat)(T:ao)(l:Option Nat)(v:J)(a b:Code)(N:Env->Hp->Prop)(X:Nat->Env->Hp->Prop)(R:Env->Hp->Prop)(F:Env)(h:Hp):Prop:=GF v (vr P n T l a N X R F h) (vr P n T l b N X R F h)
@[go_sem] theorem ZeU{b:Code}:Za8 P n T l b N X R F h=vr P n T l b N X R F h:=rfl
@[go_sem] theorem Zkg:vr P n T l .skip N X R F h=N F h:=rfl
@[go_sem] theorem ZnB:vr P n T l .ret N X R F h=R F h:=rfl
@[go_sem] theorem Zkh{j:Nat}:vr P n T l (.exit j) N X R F h=X j F h:=rfl
@[go_sem] theorem Zki{c:Code}:vr P n T l (.loop c) N X R F h=VR P n T l (.loop c) N X R F h:=rfl
@[go_sem] theorem ZnC{a b:Code}:vr P n T l (.seq a b) N X R F h=vr P n T l a (Za8 P n T l b N X R) X R F h:=rfl
@[go_sem] theorem Zkj{c:aI}{a b:Code}:vr P n T l (.cond c a b) N X R F h=pF P n T l (ev F c) a b N X R F h:=rfl
@[go_sem] theorem ZgA{j:Nat}{c:Code}:vr P n T l (.block j c) N X R F h=vr P n T l c N (Zb3 j N X) R F h:=rfl
@[go_sem] theorem ZeV{id:Nat}{l':List Oper}:vr P n T l (.region id l'.toArray false) N X R F h=Pa P T l' N l' F h:=rfl
@[go_sem] theorem Zkk{id:Nat}{l':Array Oper}:vr P n T l (.region id l' true) N X R F h=VR P n T l (.region id l' true) N X R F h:=rfl
@[go_sem] theorem Za9{a b:Code}{t:Bool}:pF P n T l (U t) a b N X R F h=if t=true then vr P n T l a N X R F h else vr P n T l b N X R F h:=rfl
end
section
variable {P:am} {n:Nat} {T:ao} {h:Hp}
theorem Je.putObj{w:ao}(s:Je T w h)(l:Nat)(o:Obj):Je T (w.putObj l o) (h.setIfInBounds l o):=by
 obtain⟨q1,q2,q3,q4⟩:=s;subst q1;exact⟨rfl,q2,q3,q4⟩
theorem Je.alloc{w:ao}(s:Je T w h)(o:Obj):Je T (w.alloc o) (h.push o):=by
 obtain⟨q1,q2,q3,q4⟩:=s;subst q1;exact⟨rfl,q2,q3,q4⟩
def TO(P:am)(T:ao)(l:Nat)(x:J)(K:Bool->Hp->Prop)(h:Hp):Prop:=
 ∀w,Je T w h->YieldAt Fence.wide 0 P l #[x] w fun e w'=>∃b h',e=.returned (U b)/\Je T w' h'/\K b h'
theorem TO.mono{l:Nat}{x:J}{K K':Bool->Hp->Prop}(H:TO P T l x K h)(hk:∀b h,K b h->K' b h):TO P T l x K' h:=fun w hs=>
 (H w hs).mono fun e w' ⟨b,h',q1,q2,q3⟩=>⟨b,h',q1,q2,hk _ _ q3⟩
theorem TO.of{l:Nat}{rec:Loop}{p:Tmp}{x:J}{K:Bool->Hp->Prop}{F0:Env}(hl:h[l]? = A (.loop rec))(hp:rec.params=#[p])(hn:rec.tmps.size=n)(hF:env { tmps:=rec.tmps.setIfInBounds p x,defers:=[] } = F0)(H:VR P n T (A l) rec.assign (fun F1 h1=>∃r1,h1[l]? = A (.loop r1)/\r1.state=.ready /\
    VR P n T (A l) rec.body (fun _ h2=>∃r2,h2[l]? = A (.loop r2)/\K true (h2.setIfInBounds l (.loop { r2 with state:=.ready,pending:=M }))) (fun _ _ _=>False)
     (fun _ h2=>∃r2,h2[l]? = A (.loop r2)/\K false (h2.setIfInBounds l (.loop { r2 with state:=.done,pending:=A .ret }))) F1 (h1.setIfInBounds l (.loop { r1 with state:=.busy }))) (fun _ _ _=>False) (fun _ _=>False) F0 h):TO P T l x K h:=by
 intro w hs;refine⟨rec.fn,_,rec.assign,rec.body,run_yield (by rw[hs.heap];exact hl) (by rw[hp];rfl),roundIn_of_wpIn trivial ?_⟩;have ht:(rec.params.zip #[x]).foldl (fun tmps (t,a)=>tmps.setIfInBounds t a) rec.tmps=rec.tmps.setIfInBounds p x:=by rw[hp];simp
 rw[ht];refine wpIn_mono (H { tmps:=rec.tmps.setIfInBounds p x,defers:=[] } w (by simpa using hn) rfl hF hs) ?_;rintro e a1 w1 ⟨q1,q2,h1,q3,q4⟩
 cases e with
 | normal=>
  obtain⟨r1,fo,mC,HB⟩:=q4;refine⟨_,run_beginRound (by rw[q3.heap];exact fo) mC,?_⟩;refine wpIn_mono (HB a1 _ q1 q2 rfl (q3.putObj _ _)) ?_;rintro e a2 w2 ⟨_,_,h2,s2,k2⟩
  cases e with
  | normal=>
   obtain⟨r2,xm,hk⟩:=k2;exact⟨_,_,run_endRound M (by rw[s2.heap];exact xm),true,_,rfl,s2.putObj _ _,hk⟩
  | ret=>
   obtain⟨r2,xm,hk⟩:=k2;exact⟨_,_,run_endRound (A .ret) (by rw[s2.heap];exact xm),false,_,rfl,s2.putObj _ _,hk⟩
  | exit j=>exact k2.elim
  | goto t=>exact k2.elim
  | panic c=>exact k2.elim
  | outgrown=>exact k2.elim
 | exit j=>exact q4.elim
 | ret=>exact q4.elim
 | goto t=>exact q4.elim
 | panic c=>exact q4.elim
 | outgrown=>exact q4.elim
section
variable {l:Option Nat} {N:Env->Hp->Prop} {X:Nat->Env->Hp->Prop} {R:Env->Hp->Prop} {F:Env}
theorem VR.loop{c:Code}(I:Env->Hp->Prop)(μ:Env->Hp->Nat)(h0:I F h)(round:∀F h,I F h->VR P n T l c (fun F' h'=>I F' h'/\μ F' h'<μ F h) X R F h):VR P n T l (.loop c) N X R F h:=by
 intro a w h1 h2 h3 h4;refine wpIn_loop (fun a w=>a.tmps.size=n/\a.defers=[]/\Je T w w.heap/\I (env a) w.heap) (fun a w=>μ (env a) w.heap)
  ⟨h1,h2,by rw[h4.heap];exact h4,by rw[h3,h4.heap];exact h0⟩ ?_
 intro a w ⟨q1,q2,q3,q4⟩;refine wpIn_mono (round (env a) w.heap q4 a w q1 q2 rfl q3) (fun e a' w' ⟨p1,p2,h',p3,p4⟩=>?_)
 cases e with
 | normal=>
  have e:=p3.heap;subst e;exact⟨⟨p1,p2,p3,p4.1⟩,p4.2⟩
 | exit j=>exact⟨p1,p2,h',p3,p4⟩
 | ret=>exact⟨p1,p2,h',p3,p4⟩
 | _=>exact p4.elim
theorem Vj{F:Fence}{m:Nat}{o:Oper}{rest:List Oper}{a:Act}{w:ao}(hg:o.guard=M)(H:o.wpIn F m P a w (wpListIn F m P ops Q rest) Q):wpListIn F m P ops Q (o :: rest) a w:=by
 unfold wpListIn;rw[if_pos (by unfold b7;rw[hg])];exact H
theorem VR.yield{id:Nat}{t0 t3:Tmp}{d1 d2 d3 d4:Tmp}{ty1 ty2 ty3 ty4:O}{p1 p2 p3 p4:String}{a1 a2 a3 a4}{at3:Array O}{ty5:O}{lp:Nat}{x:J}(hd:d1<n/\d2<n/\d3<n/\d4<n/\d1≠d2)(ht:F t0=.func (.yield lp) #[] #[])(hx:Z5 F (A d1) (F t0) t3=x)(H:TO P T lp x (fun b h'=>N (Z5 (Z5 (Z5 (Z5 F (A d1) (F t0)) (A d2) x) (A d3) (U b)) (A d4) (.bool !b)) h') h):
  VR P n T l (.region id #[⟨A d1,.move (.tmp t0),ty1,p1,a1,M⟩,⟨A d2,.move (.tmp t3),ty2,p2,a2,M⟩,⟨A d3,.call { callee:=.value (.tmp d1),args:=#[.tmp d2],argTypes:=at3 },ty3,p3,a3,M⟩,⟨A d4,.unOp .not ty5 (.tmp d3),ty4,p4,a4,M⟩] false) N X R F h:=by
 intro a w h1 h2 h3 h4;refine wpIn_region_list ?_;obtain⟨k1,k2,k3,k4,k5⟩:=hd;refine Vj rfl ⟨fun _ _=>trivial,?_⟩;rw[Oper.semAt_eq _ _ _ (fun c e=>by cases e)];show wpListIn _ _ _ _ _ _ (a.put (A d1) (a.eval (.tmp t0))) w;have e0:a.eval (.tmp t0)=F t0:=by rw[QV,h3];rfl
 rw[e0];have F1:env (a.put (A d1) (F t0))=Z5 F (A d1) (F t0):=by rw[QW a _ _ (fun d e=>by cases e;rw[h1];exact k1),h3]
 refine Vj rfl ⟨fun _ _=>trivial,?_⟩;rw[Oper.semAt_eq _ _ _ (fun c e=>by cases e)];show wpListIn _ _ _ _ _ _ ((a.put (A d1) (F t0)).put (A d2) ((a.put (A d1) (F t0)).eval (.tmp t3))) w;have e1:(a.put (A d1) (F t0)).eval (.tmp t3)=x:=by rw[QV,F1];exact hx
 rw[e1];have s1:(a.put (A d1) (F t0)).tmps.size=n:=by rw[size_put,h1]
 have F2:env ((a.put (A d1) (F t0)).put (A d2) x)=Z5 (Z5 F (A d1) (F t0)) (A d2) x:=by rw[QW _ _ _ (fun d e=>by cases e;rw[s1];exact k2),F1]
 have s2:((a.put (A d1) (F t0)).put (A d2) x).tmps.size=n:=by rw[size_put,s1]
 have f2:((a.put (A d1) (F t0)).put (A d2) x).defers=[]:=h2;obtain⟨b,hb⟩:=ZD ((a.put (A d1) (F t0)).put (A d2) x);rw[<-hb]at F2 s2 f2 ⊢;have v1:b.eval (.tmp d1)=.func (.yield lp) #[] #[]:=by
  rw[QV,F2,<-ht];simp[ev,Z5,Gz,k5]
 have v2:b.eval (.tmp d2)=x:=by
  rw[QV,F2];simp[ev,Z5,Gz]
 refine Vj rfl ⟨fun _ _=>trivial,?_⟩;rw[Oper.semAt_eq _ _ _ (fun c e=>by cases e)];obtain⟨fn,tmps,as,bd,hy,hr⟩:=H w h4;have run:(execOp b.eval ⟨A d3,.call { callee:=.value (.tmp d1),args:=#[.tmp d2],argTypes:=at3 },ty3,p3,a3,M⟩).run P w=.ok (.round lp fn tmps as bd) w:=by
  have v1':b.tmps[d1]?.getD undef=.func (.yield lp) #[] #[]:=by rw[<-v1];simp[go_sem]
  have v2':b.tmps[d2]?.getD undef=x:=by rw[<-v2];simp[go_sem]
  simp[execOp,resolve,invoke,v1',v2',hy,go_sem]
 rw[run,Oper.uponIn_round];refine⟨(fun q=>by cases q),hr.mono ?_⟩;rintro e w' ⟨c,h',rfl,V1,hN⟩;have F3:env (b.put (A d3) (U c))=Z5 (Z5 (Z5 F (A d1) (F t0)) (A d2) x) (A d3) (U c):=by rw[QW _ _ _ (fun d e=>by cases e;rw[s2];exact k3),F2]
 have s3:(b.put (A d3) (U c)).tmps.size=n:=by rw[size_put,s2]
 refine Vj rfl ⟨fun _ _=>trivial,?_⟩;rw[Oper.semAt_eq _ _ _ (fun c e=>by cases e)];have v3:(b.put (A d3) (U c)).eval (.tmp d3)=U c:=by
  rw[QV,F3];simp[ev,Z5,Gz]
 have ZnD:(execOp (b.put (A d3) (U c)).eval ⟨A d4,.unOp .not ty5 (.tmp d3),ty4,p4,a4,M⟩).run P w'=.ok (.value (.bool !c)) w':=by
  simp[execOp,s2,k3,go_sem,Op.unary]
 rw[ZnD];show AE n T N X R .normal ((b.put (A d3) (U c)).put (A d4) (.bool !c)) w';refine⟨by rw[size_put,s3],f2,h',V1,?_⟩;show N (env ((b.put (A d3) (U c)).put (A d4) (.bool !c))) h';rw[QW _ _ _ (fun d e=>by cases e;rw[s3];exact k4),F3];exact hN
end
section
variable {f:FuncId} {fn:Func} {c:Code} {l:List ResultVar} {K:J->Hp->Prop}
def xo(T:ao)(K:J->Hp->Prop):Ending->ao->Prop:=fun e w'=>∃v h',e=.returned v/\Je T w' h'/\K v h'
theorem Kh{a:Act}{w:ao}{h':Hp}(hl:fn.results=l.toArray)(q3:Je T w h')(hr:Ws P l (env a) K h'):∃v,(results fn a.tmps).run P w=.ok v w/\xo T K (.returned v) w:=by
 unfold Ws at hr;split at hr
 .rename_i vs ic;exact⟨_,MN hl ic q3,_,h',rfl,q3,hr⟩
 .exact hr.elim
theorem Zc.ZgB{args:Array J}(hf:P.funcs[f]? = A fn)(hb:fn.body=A c)(hl:fn.results=l.toArray)(hn:Nat.ble args.size fn.ntmps=true)(H:VR P fn.ntmps T M c (fun F h'=>Ws P l F K h') (fun _ _ _=>False) (fun F h'=>Ws P l F K h') (Ot args.toList 0) h):Zc P T f args h K:=by
 intro w hs;refine callsIn_wide.1 (callsIn_of_wp (n:=0) hf hb trivial ?_);refine wpIn_mono (H _ w ?_ rfl (NU _ _) hs) (fun e a w hp=>?_)
 .have:=bL hn;simp only[b4,bS];omega
 .obtain⟨q1,q2,h',q3,q4⟩:=hp
  cases e with
  | normal=>exact⟨q2,Kh hl q3 q4⟩
  | ret=>exact⟨q2,Kh hl q3 q4⟩
  | _=>exact q4.elim
def QM(P:am)(T:ao)(fn:Func)(K:J->Hp->Prop):Exit->Act->ao->Prop:=bodyPostM Fence.wide 0 P fn (xo T K)
def VF(P:am)(T:ao)(fn:Func)(K:J->Hp->Prop)(c:Code)(F:Env)(h:Hp):Prop:=
 ∀a w,a.tmps.size=fn.ntmps->a.defers=[]->env a=F->Je T w h->c.wpIn (fen M) 0 P (QM P T fn K) a w
theorem Zc.ZgC{args:Array J}(hf:P.funcs[f]? = A fn)(hb:fn.body=A c)(hn:Nat.ble args.size fn.ntmps=true)(H:VF P T fn K c (Ot args.toList 0) h):Zc P T f args h K:=by
 intro w hs;refine callsIn_wide.1 (callsIn_of_wp_marks (n:=0) hf hb trivial ?_);refine H _ w ?_ rfl (NU _ _) hs;have:=bL hn;simp only[b4,bS];omega
theorem pG{a:Act}{w:ao}{h':Hp}(hl:fn.results=l.toArray)(hd:a.defers=[])(q3:Je T w h')(hr:Ws P l (env a) K h'):QM P T fn K .ret a w:=by
 show LeavesInM Fence.wide 0 P fn a.tmps (xo T K) a.defers .returning w;rw[hd];exact Kh hl q3 hr
theorem fp{a:Act}{w:ao}{h':Hp}{D:Nat}(hl:fn.results=l.toArray)(hd:a.defers=[{ target:=.collected D,args:=#[] }])(q3:Je T w h')(hD:h'[D]? = A (.deferred (A [])))(hr:Ws P l (env a) K (h'.setIfInBounds D (.deferred M))):QM P T fn K .ret a w:=by
 show LeavesInM Fence.wide 0 P fn a.tmps (xo T K) a.defers .returning w;rw[hd];exact⟨Dq,.inl ⟨D,_,rfl,run_takeDeferred (by rw[q3.heap];exact hD),Kh hl (q3.putObj _ _) hr⟩⟩
theorem VF.seq{d:Code}{F:Env}(hl:fn.results=l.toArray)(H:VR P fn.ntmps T M c (fun F h=>VF P T fn K d F h) (fun _ _ _=>False) (fun F h'=>Ws P l F K h') F h):VF P T fn K (.seq c d) F h:=by
 intro a w h1 h2 h3 h4;refine wpIn_seq (wpIn_mono (H a w h1 h2 h3 h4) (fun e a w ⟨q1,q2,h,q3,q4⟩=>?_))
 cases e with
 | normal=>exact q4 a w q1 q2 rfl q3
 | ret=>exact pG hl q2 q3 q4
 | _=>exact q4.elim
theorem pH{N:Env->Hp->Prop}{m:Nat}{ds:List Deferred}(XM:T9 m ops=true):∀(l:List Oper) (F:Env) (h:Hp),(∀o∈l,o∈ops.toList)->HH P T ops N l F h ->
  ∀a w,a.tmps.size=m->a.defers=ds->env a=F->Je T w h->wpList P ops (fun e a w=>e=.normal/\a.tmps.size=m/\a.defers=ds/\∃h,Je T w h/\N (env a) h) l a w
 | [],F,h,_,H,a,w,h1,h2,h3,h4=>⟨rfl,h1,h2,h,h4,by rw[h3];exact H⟩
 | o :: l,F,h,hm,H,a,w,h1,h2,h3,h4=>by
  have hd:∀d,o.dst=A d->d<a.tmps.size:=by
   rw[h1];exact TL (bf.1 XM o (hm o Dq))
  have Pv:∀o∈l,o∈ops.toList:=fun x hx=>hm x (by simp[hx]);have LM:b7 o (yielded ops a.tmps)=Yo ops o F:=by rw[Sv XM a h1,h3];rfl
  unfold wpList;rw[LM];unfold HH at H;split at H
  .rename_i hw;rw[if_pos hw];refine .inl (NQ H h3 h4 fun v w' h' V1 hk=>?_);exact pH XM l _ h' Pv hk _ _ (by rw[size_put,h1]) (by cases o.dst<;>exact h2) (by rw[QW a _ _ hd,h3]) V1
  .rename_i hw;rw[if_neg hw];exact pH XM l _ h Pv H _ _ (by rw[size_put,h1]) (by cases o.dst<;>exact h2) (by rw[QW a _ _ hd,h3]) h4
def Zcy(P:am)(T:ao)(fn:Func)(l:List ResultVar)(K:J->Hp->Prop)(g:aI)(p:Tmp)(assign body:Code)(ops:List Oper)(F:Env)(h:Hp):Prop:=
 ∃gf lb,ev F g=.func (.func gf) #[] lb/\(∀args w,(callFunc gf args).run P w=.ok (.enter gf args) w) /\
  ∀rec:Loop,rec.state=.ready->rec.pending=M->rec.params=#[p]->rec.assign=assign->rec.body=body->rec.tmps.size=fn.ntmps->env { tmps:=rec.tmps,defers:=[] } = F ->
   Zc P T gf (#[.func (.yield (h.size+1)) #[] #[]]++lb) ((h.push (.deferred (A []))).push (.loop rec)) fun _ h'=>∃r,h'[h.size+1]? = A (.loop r)/\r.state ≠ .busy /\
    h'[h.size]? = A (.deferred (A [])) /\
    ((r.pending=M/\HH P T ops.toArray (fun F' h2=>h2[h.size]? = A (.deferred (A []))/\Ws P l F' K (h2.setIfInBounds h.size (.deferred M))) ops F (h'.setIfInBounds (h.size+1) (.loop { r with state:=.exhausted }))) \/
     (r.pending=A .ret/\Ws P l F K ((h'.setIfInBounds (h.size+1) (.loop { r with state:=.exhausted })).setIfInBounds h.size (.deferred M))))
theorem VF.range{c0:Code}{j id:Nat}{g:aI}{p:Tmp}{assign body:Code}{ops:List Oper}{F:Env}(hl:fn.results=l.toArray)(XM:(T9 fn.ntmps ops.toArray&&ops.toArray.toList.all Q0)=true)(H:VR P fn.ntmps T M c0 (fun F h=>Zcy P T fn l K g p assign body ops F h) (fun _ _ _=>False) (fun F h'=>Ws P l F K h') F h):
  VF P T fn K (.seq (.seq c0 (.block j (.rangeFunc g #[p] assign body))) (.seq (.region id ops.toArray false) .ret)) F h:=by
 intro a w h1 h2 h3 h4;refine wpIn_seq (wpIn_seq (wpIn_mono (H a w h1 h2 h3 h4) (fun e a w ⟨q1,q2,h,q3,q4⟩=>?_)))
 cases e with
 | ret=>exact pG hl q2 q3 q4
 | exit j=>exact q4.elim
 | goto t=>exact q4.elim
 | panic c=>exact q4.elim
 | outgrown=>exact q4.elim
 | normal=>
  obtain⟨F',q5⟩:∃F',env a=F':=⟨_,rfl⟩
  rw[q5]at q4;obtain⟨gf,lb,hg,eg,HC⟩:=q4;refine wpIn_block (wpIn_rangeFunc ?_);intro fn' _;obtain⟨rec,Me⟩:∃rec:Loop,rec = { state:=.ready,pending:=M,fn:=fn',tmps:=a.tmps,params:=#[p],assign,body,defers:=w.heap.size }:=⟨_,rfl⟩
  have xp:w.heap.size=h.size:=by rw[q3.heap]
  have s2:Je T ((w.alloc (.deferred (A []))).alloc (.loop rec)) ((h.push (.deferred (A []))).push (.loop rec)):=(q3.alloc _).alloc _;refine⟨w.heap.size+1,[{ target:=.collected w.heap.size,args:=#[] }],(w.alloc (.deferred (A []))).alloc (.loop rec),{ target:=.fn (.func gf) lb,args:=#[.func (.yield (w.heap.size+1)) #[] #[]] },(w.alloc (.deferred (A []))).alloc (.loop rec),gf,
   #[.func (.yield (w.heap.size+1)) #[] #[]]++lb,(w.alloc (.deferred (A []))).alloc (.loop rec),?_,?_,?_,?_,(fun q=>by cases q),?_⟩
  .rw[Me];exact run_enterLoop_outer _ _ _ _ _
  .have Ij:a.eval g=.func (.func gf) #[] lb:=by rw[QV,q5];exact hg
   simp only[resolve,Ij];simp[go_sem]
  .intro f' _;exact trivial
  .simp[invoke,go_sem,eg]
  .rw[xp];have HC:=HC rec (by rw[Me]) (by rw[Me]) (by rw[Me]) (by rw[Me]) (by rw[Me]) (by rw[Me];exact q1) (by rw[Me];exact q5);refine (callsIn_wide.2 (HC _ s2)).mono ?_;rintro e w' ⟨v,h',rfl,s',r,hr,hb,hD,hp⟩;have s3:=s'.putObj (h.size+1) (.loop { r with state:=.exhausted });have hD3:(h'.setIfInBounds (h.size+1) (.loop { r with state:=.exhausted }))[h.size]? = A (.deferred (A [])):=by
    rw[av,if_neg gX];exact hD
   obtain⟨pd,Pc⟩:=ZD (r.pending);refine⟨pd,w'.putObj (h.size+1) (.loop { r with state:=.exhausted }),(by rw[Pc];exact run_endLoop (by rw[s'.heap];exact hr) hb),?_⟩;rcases hp with⟨hp,hv⟩|⟨hp,hv⟩
   .have e1:pd=M:=Pc.trans hp;subst e1;simp only[Exit.inBlock,Exit.then];simp only[al]at XM;refine wpIn_seq (wpIn_mono (wpIn_region_list (MY (r:=M) (Q:=fun e a w=>e=.normal/\a.tmps.size=fn.ntmps/\a.defers=[{ target:=.collected h.size,args:=#[] }]/\∃h2,Je T w h2/\h2[h.size]? = A (.deferred (A []))/\Ws P l (env a) K (h2.setIfInBounds h.size (.deferred M))) ?_ _ XM.2 _ _ (pH (ds:=[{ target:=.collected h.size,args:=#[] }]) XM.1 ops F' _ (fun o ho=>by simpa using ho) hv _ _ q1 ?_ q5 s3))) ?_)
    .rintro⟨_,_,q,_⟩;cases q
    .rw[q2];rfl
    .rintro e a w ⟨rfl,z1,z2,h2,z3,z4,z5⟩;exact wpIn_ret (fp (D:=h.size) hl z2 z3 z4 z5)
   .have e1:pd=A .ret:=Pc.trans hp;subst e1;refine wpIn_ret ?_;exact fp (D:=h.size) hl (by rw[q2];rfl) s3 hD3 (by rw[<-q5]at hv;exact hv)
end
end
def cAt:Code->List Nat->Option Code
 | c,[]=>A c
 | .seq a _,0 :: l=>cAt a l
 | .seq _ b,1 :: l=>cAt b l
 | .block _ c,0 :: l=>cAt c l
 | .loop c,0 :: l=>cAt c l
 | .cond _ a _,0 :: l=>cAt a l
 | .cond _ _ b,1 :: l=>cAt b l
 | _,_=>M
def fAt(f:Func)(l:List Nat):Option Code:=f.body.bind fun c=>cAt c l
def rfA:Code->Option Code
 | .rangeFunc _ _ a _=>A a
 | _=>M
def rfB:Code->Option Code
 | .rangeFunc _ _ _ b=>A b
 | _=>M
end Go.V
