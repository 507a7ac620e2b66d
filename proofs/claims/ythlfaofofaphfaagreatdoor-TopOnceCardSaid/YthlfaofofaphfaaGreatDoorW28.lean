/- Part W28. -/
import Derived.Test.YthlfaofofaphfaaGreatDoorW21
import Derived.Sort.Grow
import Derived.Deep.Draws
import Derived.Lib.UnsafeStr
open Go.Value renaming int→M,slice→O,bool→Z
open Go.IntKind renaming i64→D
open Go.Obj renaming cells→a5
open List renaming length→J,length_append→aw,getElem?_toArray→aD,getElem?_cons_succ→a3,eq_nil_of_length_eq_zero→a7,append_assoc→a8,all_eq_true→a9,length_cons→ba,getElem?_cons_zero→bb,size_toArray→br,length_drop→bx,mem_cons→bG
open Nat renaming le_refl→a2,mul_le_mul_right→bd,lt_of_lt_of_le→bk,zero_add→bp,add_zero→bw
open Option renaming bind_some→aO,some→A,none→U
open Array renaming getElem?_setIfInBounds→am,size_setIfInBounds→aN,getElem?_eq_none→bc,length_toList→be,ext_getElem?→bh
open Bool renaming and_eq_true→ab,not_true→bf,false_or→bg,false_eq_true→bl,not_eq_true'→bo,not_false→bA
open Go.Builtin renaming zeroCells→al,append_→a0,clear_→bB
open Go.Region renaming ready→Y,noSelect_spec→a1,free_spec→a6,binds→bn,noSelect→bz,free→bN
open Go renaming Value→G,TypeId→L,Program→aa,Operand→ag,World→a4
namespace Go.V
set_option linter.unusedVariables false
set_option linter.unusedSimpArgs false
variable{b:Nat}{t:L}{x y:ag}
section
variable {P:aa} {T:a4} {ty:L} {F:Env} {h:Hp} {K:G->Hp->Prop}
def IM(P:aa)(t:L)(m x:G)(c:Bool)(K:G->Hp->Prop)(h:Hp):Prop:=hw P (Instr.lookup t m x c) K h
def yk(P:aa)(t:L)(K:G->Hp->Prop)(h:Hp):Prop:=hw P (Instr.makeMap t U) K h
@[go_sem] theorem iJ{m:ag}{c:Bool}:Sf P T (.lookup t m x c) ty K F h=IM P t (ev F m) (ev F x) c K h:=by
 show hw P (do pure (Next.value (<-Instr.lookup t (ev F m) (ev F x) c))) (JA P T K) h=_;rw[Zm];rfl
@[go_sem] theorem aP:Sf P T (.makeMap t U) ty K F h=yk P t K h:=by
 show hw P (do pure (Next.value (<-Instr.makeMap t U))) (JA P T K) h=_;rw[Zm];rfl
@[go_sem] theorem ZgS{m:ag}{c:Bool}:EN P T ⟨U,.lookup t m x c,ty, "", #[],U⟩ K F h=IM P t (ev F m) (ev F x) c K h:=iJ
@[go_sem] theorem Zfo:EN P T ⟨U,.makeMap t U,ty, "", #[],U⟩ K F h=yk P t K h:=aP
@[go_sem] theorem ZkZ:yk P t K h=K (.map (A h.size)) (h.push (.map #[] 0)):=rfl
variable {α:Type} [DecidableEq α] {enc:α->List G}
theorem DP{e:L}{v:G}(hz:(P.info? e).bind (·.zero)=A v){Q:G->Hp->Prop}:hw P (zeroValue e) Q h=Q v h:=by
 cases hi:P.info? e with
 | none=>rw[hi]at hz;cases hz
 | some i=>
  rw[hi]at hz;unfold zeroValue;rw[Zm,X8 hi];have hz:i.zero=A v:=hz;simp only[hz];rfl
theorem Mt{es:Array MapEntry}{c:Nat}(hm:h[b]? = A (.map es c)){Q:Obj->Hp->Prop}:hw P (getObj b) Q h↔Q (.map es c) h:=
 ⟨fun⟨o,h1,_,h2⟩=>(by rw[hm]at h1;cases h1;exact h2),fun H=>⟨_,hm,rfl,H⟩⟩
end
section
variable {P:aa} {n:Nat} {T:a4} {N:Env->Hp->Prop} {X:Nat->Env->Hp->Prop} {R:Env->Hp->Prop} {F:Env} {h:Hp}
def Lu(P:aa)(T:a4)(ops:Array Oper)(S:Hp->Prop)(W:List Nat)(N:Env->Hp->Prop):Nat->Array Bool->Env->Hp->Prop
 | 0,listed,F,h=>Y .any ops listed=[]/\N F h
 | k+1,listed,F,h=>(Y .any ops listed=[]->N F h) /\
   ∀i∈Y .any ops listed,UA P T ops i (fun F' h'=>(i∈W\/(S h->S h'))/\Lu P T ops S W N k (listed.setIfInBounds i true) F' h') F h
theorem E8{ops:Array Oper}{S:Hp->Prop}{W:List Nat}:∀(k:Nat) (listed:Array Bool) (F:Env) (h:Hp),Lu P T ops S W N k listed F h->gq P T ops (fun _=>True) N k listed F h:=by
 intro k
 induction k with
 | zero=>intro listed F h H;exact H
 | succ k ih=>intro listed F h H;exact⟨H.1,fun i hi=>Qh (fun F' h' q=>⟨trivial,ih _ _ _ q.2⟩) (H.2 i hi)⟩
theorem Sk{ops:Array Oper}{S S1:Hp->Prop}{W:List Nat}{i:Nat}{oi:Oper}{v:G}(hi:ops[i]? = A oi)(AY:∀(j:Nat) (o:Oper) cs b,ops[j]? = A o->o.op ≠ .select cs b)(hW:(∀h,S1 h)\/((∀h,S h->S1 h)/\∀j∈W,∃f,Vk ops f j i=true)):
  ∀(k:Nat) (listed:Array Bool) (F:Env) (h:Hp),QP ops listed ->
   (∀j oj,ops[j]? = A oj->j≠i->listed.getD j true=false->(∀e∈oj.after,bn .any e=true->e.on≠i)->oi.apart ops oj=true) ->
   i∈Y .any ops listed->Wh P T ops S1 oi v F->((∀h,S1 h)\/S h) ->
   Lu P T ops S W N k (listed.setIfInBounds i true) (YD F oi.dst v) h->Lu P T ops S W N (k+1) listed F h:=by
 intro k
 induction k with
 | zero=>
  intro listed F h _ _ hr hy hS H;have hS1:S1 h:=hS.elim (fun q=>q h) (fun q=>hW.elim (fun p=>p h) (fun p=>p.1 h q));refine⟨fun h=>(by rw[h]at hr;cases hr),fun j hj=>?_⟩;by_cases Sd:j=i
  .subst Sd;exact hy.opI hi hS1 ⟨.inr id,H⟩
  .have:=ready_mono hj Sd;rw[H.1]at this
   cases this
 | succ k ih=>
  intro listed F h J9 ID hr hy hS H;have hS1:S1 h:=hS.elim (fun q=>q h) (fun q=>hW.elim (fun p=>p h) (fun p=>p.1 h q));refine⟨fun h=>(by rw[h]at hr;cases hr),fun j hj=>?_⟩;by_cases Sd:j=i
  .subst Sd;exact hy.opI hi hS1 ⟨.inr id,H⟩
  .have h1:=H.2 j (ready_mono hj Sd);obtain⟨AZ,oj,pD,XO⟩:=mem_ready.1 hj;have CY:∀e∈oj.after,bn .any e=true->e.on≠i:=fun e he hb heq=>by
    have h1:=XO e he hb;have h0:=(mem_ready.1 hr).1;rw[heq]at h1;rcases Nat.lt_or_ge i listed.size with h'|h'
    .simp[h']at h0 h1;rw[h0]at h1;cases h1
    .simp[bc h']at h1
   have h2:=Gv pD (ID j oj pD Sd AZ CY) (fun cs b=>AY i oi cs b hi) (fun cs b=>AY j oj cs b pD) hy h1;have Gx:∀k ok,ops[k]? = A ok->k≠i->(listed.setIfInBounds j true).getD k true=false ->
     (∀e∈ok.after,bn .any e=true->e.on≠i)->oi.apart ops ok=true:=fun k ok hk hki hun mj=>by
    refine ID k ok hk hki ?_ mj;by_cases mm:j=k
    .subst mm;exact AZ
    .rw[getD_set_ne true mm]at hun;exact hun
   refine Qh (fun F' h' h3=>?_) h2;refine⟨h3.2.1,ih (listed.setIfInBounds j true) F' h' (J9.set hj) Gx (ready_mono hr (Ne.symm Sd)) h3.1 ?_ ?_⟩
   .rcases hW with hW|⟨hW1,hW2⟩
    .exact .inl hW
    .rcases hS with hS|hS
     .exact .inl hS
     .rcases h3.2.1 with hjw|hss
      .obtain⟨f,hf⟩:=hW2 j hjw;have h1:=IG J9 hf hj;have h0:=(mem_ready.1 hr).1;rcases Nat.lt_or_ge i listed.size with h'|h'
       .simp[h']at h0 h1;rw[h0]at h1;cases h1
       .simp[bc h']at h1
      .exact .inr (hss hS)
   .rw[Array.setIfInBounds_comm _ _ Sd];exact h3.2.2
inductive Tz where
 | nil
 | p (i:Nat) (t:Tz)
 | q (i:Nat) (t:Tz)
 | s (i:Nat) (t:Tz)
 | w (i:Nat) (t:Tz)
 | or (i:Nat) (t:Tz) (r:Tz)
def Tz.alts:Tz->List Nat
 | .s i _=>[i]
 | .w i _=>[i]
 | .or i _ r=>i :: r.alts
 | _=>[]
def Tz.Lr:Tz->Bool
 | .q _ _=>true
 | .p _ t=>t.Lr
 | .s _ t=>t.Lr
 | .or _ t r=>t.Lr||r.Lr
 | _=>false
def Tz.ok(ops:Array Oper)(W:List Nat):Tz->Nat->Array Bool->Bool->Bool
 | .nil,n,listed,_=>Nat.beq n 0&&(Y .any ops listed).isEmpty
 | .p _ _,0,_,_=>false
 | .p i t,n+1,listed,_=>((Y .any ops listed).contains i&&bN .any ops listed i)&&t.ok ops W n (listed.setIfInBounds i true) true
 | .q _ _,0,_,_=>false
 | .q i t,n+1,listed,_=>((Y .any ops listed).contains i&&(bN .any ops listed i&&W.all fun j=>Vk ops mG j i))&&t.ok ops W n (listed.setIfInBounds i true) true
 | .s _ _,0,_,_=>false
 | .s i t,n+1,listed,b=>(!b||(Y .any ops listed == [i]))&&t.ok ops W n (listed.setIfInBounds i true) true
 | .w _ _,0,_,_=>false
 | .w i t,n+1,listed,b=>((!b||(Y .any ops listed == [i]))&&(W.contains i&&!t.Lr))&&t.ok ops W n (listed.setIfInBounds i true) true
 | .or _ _ _,0,_,_=>false
 | .or i t r,n+1,listed,b=>(!b||(Y .any ops listed == i :: r.alts))&&(t.ok ops W n (listed.setIfInBounds i true) true&&r.ok ops W (n+1) listed false)
def AQ(P:aa)(T:a4)(ops:Array Oper)(S:Hp->Prop)(N:Env->Hp->Prop):Tz->Env->Hp->Prop
 | .nil,F,h=>N F h
 | .p i t,F,h=>match ops[i]? with
  | some o=>if YK ops o F then ∃v,(∀h',EN P T o (fun v' Kw=>v'=v/\Kw=h') F h')/\AQ P T ops S N t (YD F o.dst v) h else AQ P T ops S N t (YD F o.dst undef) h
  | none=>False
 | .q i t,F,h=>match ops[i]? with
  | some o=>if YK ops o F then ∃v,(∀h',S h'->EN P T o (fun v' Kw=>v'=v/\Kw=h') F h')/\AQ P T ops S N t (YD F o.dst v) h else AQ P T ops S N t (YD F o.dst undef) h
  | none=>False
 | .s i t,F,h=>UA P T ops i (fun F' h'=>S h'/\AQ P T ops S N t F' h') F h
 | .w i t,F,h=>UA P T ops i (fun F' h'=>AQ P T ops S N t F' h') F h
 | .or i t r,F,h=>UA P T ops i (fun F' h'=>S h'/\AQ P T ops S N t F' h') F h/\AQ P T ops S N r F h
theorem Bt{ops:Array Oper}{S:Hp->Prop}{W:List Nat}(hs:bz ops=true):∀(t:Tz),
  (∀(k:Nat) (listed:Array Bool) (F:Env) (h:Hp),QP ops listed->t.ok ops W k listed true=true->(t.Lr=true->S h)->AQ P T ops S N t F h->Lu P T ops S W N k listed F h) /\
  (∀(k:Nat) (listed:Array Bool) (F:Env) (h:Hp),QP ops listed->t.ok ops W (k+1) listed false=true->AQ P T ops S N t F h->∀j∈t.alts,j∈Y .any ops listed->UA P T ops j (fun F' h'=>(j∈W\/(S h->S h'))/\Lu P T ops S W N k (listed.setIfInBounds j true) F' h') F h):=by
 intro t
 induction t with
 | nil=>
  refine⟨fun k listed F h J9 hB hS H=>?_,fun k listed F h _ _ _ j hj=>by cases hj⟩;simp only[Tz.ok,ab,List.isEmpty_iff]at hB;obtain⟨h1,h2⟩:=hB;obtain rfl:=Nat.eq_of_beq_eq_true h1;exact⟨h2,H⟩
 | p i t ih=>
  refine⟨fun k listed F h J9 hB hS H=>?_,fun k listed F h _ _ _ j hj=>by cases hj⟩
  cases k with
  | zero=>simp[Tz.ok]at hB
  | succ k=>
   simp only[Tz.ok,ab]at hB;obtain⟨⟨h1,h2⟩,h3⟩:=hB;have Mi:i∈Y .any ops listed:=by simpa using h1
   obtain⟨_,o,ho,_⟩:=mem_ready.1 Mi;simp only[AQ,ho]at H;split at H
   .rename_i Gu;obtain⟨v,hv,H⟩:=H;exact Sk (S1:=fun _=>True) ho (a1 hs) (.inl fun _=>trivial) k listed F h J9 (a6 ho h2) Mi (.inl ⟨Gu,fun h' _=>hv h'⟩) (.inl fun _=>trivial) (ih.1 k _ _ _ (J9.set Mi) h3 hS H)
   .rename_i Gu;exact Sk (S1:=fun _=>True) ho (a1 hs) (.inl fun _=>trivial) k listed F h J9 (a6 ho h2) Mi (.inr ⟨by simpa using Gu,rfl⟩) (.inl fun _=>trivial) (ih.1 k _ _ _ (J9.set Mi) h3 hS H)
 | q i t ih=>
  refine⟨fun k listed F h J9 hB hS H=>?_,fun k listed F h _ _ _ j hj=>by cases hj⟩;have hS:=hS rfl
  cases k with
  | zero=>simp[Tz.ok]at hB
  | succ k=>
   simp only[Tz.ok,ab]at hB;obtain⟨⟨h1,h2,hw⟩,h3⟩:=hB;have Mi:i∈Y .any ops listed:=by simpa using h1
   obtain⟨_,o,ho,_⟩:=mem_ready.1 Mi;have hW:∀j∈W,∃f,Vk ops f j i=true:=fun j hj=>⟨mG,a9.1 hw j hj⟩
   simp only[AQ,ho]at H;split at H
   .rename_i Gu;obtain⟨v,hv,H⟩:=H;exact Sk ho (a1 hs) (.inr ⟨fun _ q=>q,hW⟩) k listed F h J9 (a6 ho h2) Mi (.inl ⟨Gu,hv⟩) (.inr hS) (ih.1 k _ _ _ (J9.set Mi) h3 (fun _=>hS) H)
   .rename_i Gu;exact Sk ho (a1 hs) (.inr ⟨fun _ q=>q,hW⟩) k listed F h J9 (a6 ho h2) Mi (.inr ⟨by simpa using Gu,rfl⟩) (.inr hS) (ih.1 k _ _ _ (J9.set Mi) h3 (fun _=>hS) H)
 | s i t ih=>
  have second:∀(k:Nat) (listed:Array Bool) (F:Env) (h:Hp),QP ops listed->i∈Y .any ops listed->t.ok ops W k (listed.setIfInBounds i true) true=true->AQ P T ops S N (.s i t) F h->UA P T ops i (fun F' h'=>(i∈W\/(S h->S h'))/\Lu P T ops S W N k (listed.setIfInBounds i true) F' h') F h:=by
   intro k listed F h J9 Mi hB H;exact Qh (fun F' h' q=>⟨.inr fun _=>q.1,ih.1 k _ _ _ (J9.set Mi) hB (fun _=>q.1) q.2⟩) H
  refine⟨fun k listed F h J9 hB hS H=>?_,fun k listed F h J9 hB H j hj hr=>?_⟩
  .cases k with
   | zero=>simp[Tz.ok]at hB
   | succ k=>
    simp only[Tz.ok,ab,bf,bg,beq_iff_eq]at hB;refine⟨fun h0=>(by rw[hB.1]at h0;cases h0),fun j hj=>?_⟩;have hr:=hj;rw[hB.1]at hj;have hj:j=i:=by simpa using hj
    subst hj;exact second k listed F h J9 hr hB.2 H
  .simp only[Tz.ok,ab]at hB;have hj:j=i:=by simpa [Tz.alts] using hj
   subst hj;exact second k listed F h J9 hr hB.2 H
 | w i t ih=>
  have second:∀(k:Nat) (listed:Array Bool) (F:Env) (h:Hp),QP ops listed->i∈Y .any ops listed->i∈W->t.Lr=false->t.ok ops W k (listed.setIfInBounds i true) true=true->AQ P T ops S N (.w i t) F h->UA P T ops i (fun F' h'=>(i∈W\/(S h->S h'))/\Lu P T ops S W N k (listed.setIfInBounds i true) F' h') F h:=by
   intro k listed F h J9 Mi hw hq hB H;exact Qh (fun F' h' q=>⟨.inl hw,ih.1 k _ _ _ (J9.set Mi) hB (fun e=>by rw[hq]at e;cases e) q⟩) H
  refine⟨fun k listed F h J9 hB hS H=>?_,fun k listed F h J9 hB H j hj hr=>?_⟩
  .cases k with
   | zero=>simp[Tz.ok]at hB
   | succ k=>
    simp only[Tz.ok,ab,bf,bg,beq_iff_eq,bo]at hB;obtain⟨⟨h1,h2,h3⟩,h4⟩:=hB;refine⟨fun h0=>(by rw[h1]at h0;cases h0),fun j hj=>?_⟩;have hr:=hj;rw[h1]at hj;have hj:j=i:=by simpa using hj
    subst hj;exact second k listed F h J9 hr (by simpa using h2) h3 h4 H
  .simp only[Tz.ok,ab,bo]at hB;obtain⟨⟨h1,h2,h3⟩,h4⟩:=hB;have hj:j=i:=by simpa [Tz.alts] using hj
   subst hj;exact second k listed F h J9 hr (by simpa using h2) h3 h4 H
 | or i t r iht ihr=>
  have second:∀(k:Nat) (listed:Array Bool) (F:Env) (h:Hp),QP ops listed->t.ok ops W k (listed.setIfInBounds i true) true=true->r.ok ops W (k+1) listed false=true->AQ P T ops S N (.or i t r) F h->∀j∈(Tz.or i t r).alts,j∈Y .any ops listed->UA P T ops j (fun F' h'=>(j∈W\/(S h->S h'))/\Lu P T ops S W N k (listed.setIfInBounds j true) F' h') F h:=by
   intro k listed F h J9 hB hR H j hj hr;rcases bG.1 hj with hj|hj
   .subst hj;exact Qh (fun F' h' q=>⟨.inr fun _=>q.1,iht.1 k _ _ _ (J9.set hr) hB (fun _=>q.1) q.2⟩) H.1
   .exact ihr.2 k listed F h J9 hR H.2 j hj hr
  refine⟨fun k listed F h J9 hB hS H=>?_,fun k listed F h J9 hB H j hj hr=>?_⟩
  .cases k with
   | zero=>simp[Tz.ok]at hB
   | succ k=>
    simp only[Tz.ok,ab,bf,bg,beq_iff_eq]at hB;refine⟨fun h0=>(by rw[hB.1]at h0;cases h0),fun j hj=>?_⟩;have hr:=hj;rw[hB.1]at hj;exact second k listed F h J9 hB.2.1 hB.2.2 H j hj hr
  .simp only[Tz.ok,ab]at hB;exact second k listed F h J9 hB.2.1 hB.2.2 H j hj hr
def aQ(P:aa)(T:a4)(op:Op)(ty:L)(C:G->Prop)(F:Env):Prop:=
 match op with
 | .load _ _=>False
 | op=>Te P T 0 #[] op ty C F
theorem DQ{op:Op}{ty:L}{C:G->Prop}(H:aQ P T op ty C F):∃v,(∀h',Sf P T op ty (fun v' Kw=>v'=v/\Kw=h') F h')/\C v:=by
 cases op<;>first|exact H|exact H.elim
def zPg(P:aa)(T:a4)(K:Env->Hp->Prop)(F:Env)(h:Hp)(d:Option Tmp)(op:Op)(ty:L)(v:G)(b:Bool):Prop:=JO v b (aQ P T op ty (fun v=>K (YD F d v) h) F) (K (YD F d undef) h)
def zP(P:aa)(T:a4)(ops:List Oper)(K:Env->Hp->Prop)(F:Env)(h:Hp)(o:Option Oper):Prop:=
 match o with
 | some ⟨d,op,ty,_,_,U⟩=>aQ P T op ty (fun v=>K (YD F d v) h) F
 | some ⟨d,op,ty,_,_,A (j,b)⟩=>zPg P T K F h d op ty (Ww ops F j) b
 | none=>False
def EK(P:aa)(T:a4)(ops:List Oper)(B:Nat)(h0:Hp)(N:Env->Hp->Prop):Tz->Env->Hp->Prop
 | .nil,F,h=>N F h
 | .p i t,F,h=>zP P T ops (EK P T ops B h0 N t) F h (nth ops i)
 | .q i t,F,h=>wQ P T ops B h0 (EK P T ops B h0 N t) F h (nth ops i)
 | .s i t,F,h=>wS P T ops B h0 (EK P T ops B h0 N t) F h (nth ops i)
 | .w i t,F,h=>wW P T ops (EK P T ops B h0 N t) F h (nth ops i)
 | .or i t r,F,h=>wS P T ops B h0 (EK P T ops B h0 N t) F h (nth ops i)/\EK P T ops B h0 N r F h
theorem iK{ops:List Oper}{B:Nat}{h0:Hp}{N:Env->Hp->Prop}:∀(t:Tz) (F:Env) (h:Hp),EK P T ops B h0 N t F h->AQ P T ops.toArray (fun h'=>Zj B h0 h') N t F h:=by
 intro t
 induction t with
 | nil=>intro F h H;exact H
 | p i t ih=>
  intro F h H;simp only[EK]at H;simp only[AQ]
  cases ho:nth ops i with
  | none=>rw[ho]at H;exact H.elim
  | some o=>
   rw[Tw ho];rw[ho]at H;obtain⟨d,op,ty,pos,Vi,g⟩:=o
   cases g with
   | none=>
    show (if YK ops.toArray _ F=true then _ else _);rw[if_pos (by rfl)];obtain⟨v,hv,H⟩:=DQ H;exact⟨v,fun h'=>QO (hv h'),ih _ _ H⟩
   | some jb=>
    obtain⟨j,b⟩:=jb;show (if YK ops.toArray _ F=true then _ else _);rcases XQ ops F d op pos Vi j b H with⟨hw,H⟩|⟨hw,H⟩
    .rw[if_pos hw];obtain⟨v,hv,H⟩:=DQ H;exact⟨v,fun h'=>QO (hv h'),ih _ _ H⟩
    .rw[hw,if_neg IQ];exact ih _ _ H
 | q i t ih=>
  intro F h H;simp only[EK]at H;simp only[AQ]
  cases ho:nth ops i with
  | none=>rw[ho]at H;exact H.elim
  | some o=>
   rw[Tw ho];rw[ho]at H;obtain⟨d,op,ty,pos,Vi,g⟩:=o
   cases g with
   | none=>
    show (if YK ops.toArray _ F=true then _ else _);rw[if_pos (by rfl)];obtain⟨v,hv,H⟩:=Tf H;exact⟨v,fun h' hs=>QO (hv h' hs),ih _ _ H⟩
   | some jb=>
    obtain⟨j,b⟩:=jb;show (if YK ops.toArray _ F=true then _ else _);rcases XQ ops F d op pos Vi j b H with⟨hw,H⟩|⟨hw,H⟩
    .rw[if_pos hw];obtain⟨v,hv,H⟩:=Tf H;exact⟨v,fun h' hs=>QO (hv h' hs),ih _ _ H⟩
    .rw[hw,if_neg IQ];exact ih _ _ H
 | s i t ih=>intro F h H;exact Ls ih H
 | w i t ih=>intro F h H;exact aL ih H
 | or i t r iht ihr=>intro F h H;exact⟨Ls iht H.1,ihr _ _ H.2⟩
def Zk1(n:Nat)(ops:Array Oper)(W:List Nat)(t:Tz):Bool:=IA n ops&&(bz ops&&t.ok ops W ops.size (Array.replicate ops.size false) true)
theorem VS.z{id:Nat}{ops:List Oper}(B:Nat)(W:List Nat)(t:Tz)(hm:P.follows .mixedOrders=true)(Um:Zk1 n ops.toArray W t=true)(H:EK P T ops B h N t F h):VS P n T (.region id ops.toArray true) N X R F h:=by
 intro a w h1 h2 h3 h4;simp only[Zk1,ab]at Um;obtain⟨k1,k2,k3⟩:=Um;refine wp_region_any hm ?_;refine QN k1 _ _ F h (E8 _ _ _ _ ((Bt (S:=fun h'=>Zj B h h') k2 t).1 _ _ F h (II _ _) k3 (fun _=>Zj.refl _ _) (iK t F h H))) a _ h1 h2 h3 ⟨h4.heap,h4.tape,h4.os,h4.output⟩
variable {ops:List Oper} {B:Nat} {h0:Hp} {t r:Tz} {i j:Nat} {d:Option Tmp} {op:Op} {ty:L} {pos:String} {Vi:Array Edge} {b c:Bool} {v:G} {K:Env->Hp->Prop} {C:G->Prop}
@[go_sem] theorem Zov:EK P T ops B h0 N .nil F h=N F h:=rfl
@[go_sem] theorem ZxT:EK P T ops B h0 N (.p i t) F h=zP P T ops (EK P T ops B h0 N t) F h (nth ops i):=rfl
@[go_sem] theorem ZxU:EK P T ops B h0 N (.q i t) F h=wQ P T ops B h0 (EK P T ops B h0 N t) F h (nth ops i):=rfl
@[go_sem] theorem ZxV:EK P T ops B h0 N (.s i t) F h=wS P T ops B h0 (EK P T ops B h0 N t) F h (nth ops i):=rfl
@[go_sem] theorem ZxW:EK P T ops B h0 N (.w i t) F h=wW P T ops (EK P T ops B h0 N t) F h (nth ops i):=rfl
@[go_sem] theorem ZrK:EK P T ops B h0 N (.or i t r) F h=(wS P T ops B h0 (EK P T ops B h0 N t) F h (nth ops i)/\EK P T ops B h0 N r F h):=rfl
@[go_sem] theorem Zk2:zP P T ops K F h (A ⟨d,op,ty,pos,Vi,U⟩)=aQ P T op ty (wKq K F d h) F:=rfl
@[go_sem] theorem Zk3:zP P T ops K F h (A ⟨d,op,ty,pos,Vi,A (j,b)⟩)=zPg P T K F h d op ty (Ww ops F j) b:=rfl
@[go_sem] theorem Zk4:zPg P T K F h d op ty (Z c) b=if c=b then aQ P T op ty (wKq K F d h) F else K (YD F d undef) h:=rfl
@[go_sem] theorem Zk5:aQ P T (.move x) ty C F=Te P T 0 #[] (.move x) ty C F:=rfl
@[go_sem] theorem ZgT:aQ P T (.assign x) ty C F=Te P T 0 #[] (.assign x) ty C F:=rfl
@[go_sem] theorem Zjx{t:L}{x:ag}{i:Nat}:aQ P T (.fieldAddr t x i) ty C F=Te P T 0 #[] (.fieldAddr t x i) ty C F:=rfl
@[go_sem] theorem ZrL{t:L}{x i:ag}:aQ P T (.indexAddr t x i) ty C F=Te P T 0 #[] (.indexAddr t x i) ty C F:=rfl
@[go_sem] theorem Zk6{z:ag}:aQ P T (.pick x y z) ty C F=Te P T 0 #[] (.pick x y z) ty C F:=rfl
@[go_sem] theorem Zow:aQ P T (.nilCheck x) ty C F=Te P T 0 #[] (.nilCheck x) ty C F:=rfl
@[go_sem] theorem Zox{op:BinOp}{t t':L}{x y:ag}:aQ P T (.binOp op t x y t') ty C F=Te P T 0 #[] (.binOp op t x y t') ty C F:=rfl
@[go_sem] theorem ZrM{op:UnOp}{t:L}{x:ag}:aQ P T (.unOp op t x) ty C F=Te P T 0 #[] (.unOp op t x) ty C F:=rfl
@[go_sem] theorem Zfp{i:Nat}:aQ P T (.extract x i) ty C F=Te P T 0 #[] (.extract x i) ty C F:=rfl
@[go_sem] theorem Zoy{t:L}{x:ag}{lo hi mx:Option ag}:aQ P T (.slice t x lo hi mx) ty C F=Te P T 0 #[] (.slice t x lo hi mx) ty C F:=rfl
@[go_sem] theorem Zjy{t:L}{parts:Array (Nat × ag)}:aQ P T (.build t parts) ty C F=Te P T 0 #[] (.build t parts) ty C F:=rfl
@[go_sem] theorem Zk7{c:Call}:aQ P T (.call c) ty C F=Te P T 0 #[] (.call c) ty C F:=rfl
end
def Yh{β:Type}:List (Int × β)->Int->Option β
 | [],_=>U
 | (a,v) :: r,k=>if a=k then A v else Yh r k
def ins{β:Type}:List (Int × β)->Int->β->List (Int × β)
 | [],k,v=>[(k,v)]
 | (a,x) :: r,k,v=>if a=k then (a,v) :: r else (a,x) :: ins r k v
def VC{β γ:Type}(f:β->γ)(l:List (Int × β)):List (Int × γ):=l.map fun x=>(x.1,f x.2)
theorem Js{β γ:Type}(f:β->γ):∀(l:List (Int × β)) (k:Int),Yh (VC f l) k=(Yh l k).map f:=by
 intro l k
 induction l with
 | nil=>rfl
 | cons x l ih=>
  obtain⟨a,v⟩:=x;show (if a=k then A (f v) else Yh (VC f l) k)=Option.map f (if a=k then A v else Yh l k);rw[ih];split<;>rfl
theorem Oj{β γ:Type}(f:β->γ):∀(l:List (Int × β)) (k:Int) (v:β),VC f (ins l k v)=ins (VC f l) k (f v):=by
 intro l k v
 induction l with
 | nil=>rfl
 | cons x l ih=>
  obtain⟨a,u⟩:=x;show VC f (if a=k then (a,v) :: l else (a,u) :: ins l k v)=if a=k then (a,f v) :: VC f l else (a,f u) :: ins (VC f l) k (f v)
  split
  .rfl
  .rw[<-ih];rfl
theorem IN{β γ:Type}(f:β->γ)(l:List (Int × β)):(VC f l).length=(J l):=List.length_map ..
theorem Mu{β:Type}:∀(l:List (Int × β)) (k:Int) (v:β),(ins l k v).length=if (Yh l k).isSome=true then (J l) else (J l)+1:=by
 intro l k v
 induction l with
 | nil=>rfl
 | cons x l ih=>
  obtain⟨a,u⟩:=x;unfold ins Yh;by_cases h:a=k
  .rw[if_pos h,if_pos h];rfl
  .rw[if_neg h,if_neg h,ba,ih,ba];split<;>rfl
theorem Xk{β:Type}:∀(l:List (Int × β)) (k j:Int) (v:β),Yh (ins l k v) j=if k=j then A v else Yh l j:=by
 intro l k j v
 induction l with
 | nil=>rfl
 | cons x l ih=>
  obtain⟨a,u⟩:=x;unfold ins;by_cases h:a=k
  .subst h;rw[if_pos rfl];unfold Yh;by_cases hj:a=j
   .rw[if_pos hj,if_pos hj]
   .rw[if_neg hj,if_neg hj,if_neg hj]
  .rw[if_neg h];show (if a=j then A u else Yh (ins l k v) j)=if k=j then A v else if a=j then A u else Yh l j
   rw[ih];by_cases hj:a=j
   .rw[if_pos hj,if_pos hj,if_neg (fun e=>h (hj.trans e.symm))]
   .rw[if_neg hj,if_neg hj]
theorem ym{β:Type}{l:List (Int × β)}{k:Int}(h:Yh l k=U):∀x∈l,x.1≠k:=by
 induction l with
 | nil=>intro x hx;cases hx
 | cons y l ih=>
  obtain⟨a,u⟩:=y;unfold Yh at h;split at h
  .cases h
  .rename_i Y7;intro x hx;rcases bG.1 hx with rfl|hx
   .exact Y7
   .exact ih h x hx
theorem RZ{β:Type}{l:List (Int × β)}{k:Int}{v:β}(h:Yh l k=A v):(k,v)∈l:=by
 induction l with
 | nil=>cases h
 | cons y l ih=>
  obtain⟨a,u⟩:=y;unfold Yh at h;split at h
  .rename_i he
   cases h;subst he;exact List.mem_cons_self
  .exact List.mem_cons_of_mem _ (ih h)
section
variable {P:aa} {T:a4} {ty:L} {F:Env} {h:Hp} {K:G->Hp->Prop}
def Uu:Nat->List (Int × G)->List MapEntry
 | _,[]=>[]
 | i,(k,v) :: l=>⟨M D k,v,i⟩ :: Uu (i+1) l
def Jt(l:List (Int × G)):Obj:=.map (Uu 0 l).toArray (J l)
theorem VY:∀(l:List (Int × G)) (i:Nat),(Uu i l).length=(J l):=by
 intro l
 induction l with
 | nil=>intro i;rfl
 | cons x l ih=>intro i;obtain⟨k,v⟩:=x;simp[Uu,ih]
def KF(l:List (Int × G))(k:Int):Nat->Option (Nat × G):=fun j=>match l with
 | []=>U
 | (a,v) :: r=>if k=a then A (j,v) else KF r k (j+1)
theorem aR(k:Int):∀(l:List (Int × G)) (i j:Nat),Instr.findNow (.int D) (M D k) (Uu i l) j=A (KF l k j):=by
 intro l
 induction l with
 | nil=>intro i j;rfl
 | cons x l ih=>
  intro i j;obtain⟨a,v⟩:=x;unfold Uu Instr.findNow KF;simp only[Instr.sameNow,if_true];by_cases hk:k=a
  .subst hk;simp
  .rw[if_neg hk];have:(k == a)=false:=by simpa using hk
   rw[this];exact ih _ _
theorem yn(k:Int):∀(l:List (Int × G)) (j:Nat),(KF l k j).map (·.2)=Yh l k:=by
 intro l
 induction l with
 | nil=>intro j;rfl
 | cons x l ih=>
  intro j;obtain⟨a,v⟩:=x;unfold KF Yh;by_cases hk:k=a
  .rw[if_pos hk,if_pos hk.symm];rfl
  .rw[if_neg hk,if_neg (fun e=>hk e.symm)];exact ih _
theorem qD{k:Int}:∀{l:List (Int × G)} {j:Nat},KF l k j=U->∀(v:G),ins l k v=l++[(k,v)]:=by
 intro l
 induction l with
 | nil=>intro j _ v;rfl
 | cons x l ih=>
  intro j h v;obtain⟨a,u⟩:=x;unfold KF at h;split at h
  .cases h
  .rename_i hk;unfold ins;rw[if_neg (fun e=>hk e.symm),ih h v];rfl
theorem iL(k:Int)(v:G):∀(l:List (Int × G)) (i:Nat),Uu i (l++[(k,v)])=Uu i l++[⟨M D k,v,i+(J l)⟩]:=by
 intro l
 induction l with
 | nil=>intro i;rfl
 | cons x l ih=>intro i;obtain⟨a,u⟩:=x;simp only[List.cons_append,Uu,ih,ba];congr 4;omega
theorem qE{k:Int}:∀{l:List (Int × G)} {i j:Nat} {n:Nat} {u:G},KF l k j=A (n,u)->∃m,n=m+j/\m<(J l)/\(Uu i l)[m]? = A ⟨M D k,u,i+m⟩/\∀v,Uu i (ins l k v)=(Uu i l).set m ⟨M D k,v,i+m⟩:=by
 intro l
 induction l with
 | nil=>intro i j n u h;cases h
 | cons x l ih=>
  intro i j n u h;obtain⟨a,w⟩:=x;unfold KF at h;by_cases hk:k=a
  .subst hk;rw[if_pos rfl]at h
   cases h
   exact⟨0,pA,IQ,rfl,fun v=>by unfold ins;rw[if_pos rfl];rfl⟩
  .rw[if_neg hk]at h;obtain⟨m,h1,h2,h3,h4⟩:=ih (i:=i+1) h;refine⟨m+1,pA,by simpa using h2,?_,fun v=>?_⟩
   .simp only[Uu,a3];rw[h3];congr 2;omega
   .unfold ins;rw[if_neg (fun e=>hk e.symm)];simp only[Uu,List.set_cons_succ,h4];congr 3;omega
def IP(P:aa)(t:L)(m k x:G)(K:G->Hp->Prop)(h:Hp):Prop:=hw P (Instr.mapUpdate t m k x) (fun _ h=>K undef h) h
@[go_sem] theorem E9{m k:ag}:Sf P T (.mapUpdate t m k x) ty K F h=IP P t (ev F m) (ev F k) (ev F x) K h:=by
 show hw P (do let _ <-Instr.mapUpdate t (ev F m) (ev F k) (ev F x);pure Next.skip) (JA P T K) h=_;rw[Zm];rfl
@[go_sem] theorem iM{m k:ag}:Sf P T (.insert t m k x) ty K F h=IP P t (ev F m) (ev F k) (ev F x) K h:=by
 show hw P (do let _ <-Instr.mapUpdate t (ev F m) (ev F k) (ev F x);pure Next.skip) (JA P T K) h=_;rw[Zm];rfl
@[go_sem] theorem Zb9{m k:ag}:EN P T ⟨U,.mapUpdate t m k x,ty, "", #[],U⟩ K F h=IP P t (ev F m) (ev F k) (ev F x) K h:=E9
@[go_sem] theorem ZgU{m k:ag}:EN P T ⟨U,.insert t m k x,ty, "", #[],U⟩ K F h=IP P t (ev F m) (ev F k) (ev F x) K h:=iM
def mK(P:aa)(t:L):Option L:=match P.underlying t with
 | some (.map k e)=>(match P.underlying k with|some (.int D)=>A e|_=>U)
 | _=>U
theorem Lv{e:L}(h:mK P t=A e):∃k,P.underlying t=A (.map k e)/\P.underlying k=A (.int D):=by
 unfold mK at h;split at h
 .rename_i k e' hu;split at h
  .rename_i hk
   cases h
   exact⟨k,hu,hk⟩
  .cases h
 .cases h
def tzv(P:aa)(t:L):Option G:=(P.info? t).bind (·.zero)
theorem Mv{k:L}(hk:P.underlying k=A (.int D)){b:Bool}{n:Int}{Q:Unit->Hp->Prop}:hw P (Instr.checkKey b 10000 k (M D n)) Q h=Q () h:=by
 show hw P (do
  match <-underlying k,(Value.int D n) with
  | .interface _,.iface d x=>
   let info <-typeInfo d
   if !info.comparable then
    if b then runtimePanic (.unhashable d)
    runtimePanic (.error ("hash of unhashable type " ++ (<-typeStr d)))
   Instr.checkKey b 9999 d x
  | .array len elem,.agg cs=>
   for i in [0:len] do Instr.checkKey b 9999 elem (<-part elem cs (i*(<-sizeOf elem)))
  | .struct fields,.agg cs=>
   for f in fields do
    if f.name ≠ "_" then Instr.checkKey b 9999 f.type (<-part f.type cs f.offset)
  | .interface _,.nilIface=>pure ()
  | .interface _,_|.array _ _,_|.struct _,_=>stuck "map key: not a value of its type"
  | _,_=>pure ()) Q h=_
 rw[Zm,ZH hk];rfl
theorem Ok{k:L}(hk:P.underlying k=A (.int D)){n:Int}{l:List (Int × G)}{Q:Option (Nat × G)->Hp->Prop}:hw P (Instr.findKey k (M D n) (Uu 0 l)) Q h=Q (KF l n 0) h:=by
 unfold Instr.findKey;rw[Zm,ZH hk];simp only[aR];rfl
theorem Xi{e:L}{z:G}{l:List (Int × G)}{n:Int}{c:Bool}(ht:mK P t=A e)(hz:tzv P e=A z)(hm:h[b]? = A (Jt l)):
  IM P t (.map (A b)) (M D n) c K h=K (if c=true then .tuple #[(Yh l n).getD z,Z (Yh l n).isSome] else (Yh l n).getD z) h:=by
 obtain⟨k,hu,hk⟩:=Lv ht;unfold IM Instr.lookup;rw[Zm,ZH hu];simp only;rw[Zm];apply propext;rw[Mt hm];simp only;rw[Zm,ZO,Zm,Mv hk,Zm,Ok hk,<-yn n l 0]
 cases KF l n 0 with
 | none=>
  simp only[Option.map_none,Option.getD_none,Option.isSome_none];rw[Zm];have ae:=fun {Q:G->Hp->Prop}=>DP (P:=P) (h:=h) (Q:=Q) hz;rw[ae]
  cases c<;>exact Iff.rfl
 | some p=>cases c<;>exact Iff.rfl
@[go_sem] theorem Bu{e:L}{z:G}{n:Int}{c:Bool}(ht:mK P t=A e)(hz:tzv P e=A z):
  IM P t (.map U) (M D n) c K h=K (if c=true then .tuple #[z,Z false] else z) h:=by
 obtain⟨k,hu,hk⟩:=Lv ht;unfold IM Instr.lookup;rw[Zm,ZH hu];simp only;rw[Zm,ZO,Zm,Mv hk,Zm];have:=fun {Q:Option (Nat × G)->Hp->Prop}=>Ok (P:=P) (h:=h) (k:=k) hk (n:=n) (l:=[]) (Q:=Q);rw[show (#[]:Array MapEntry).toList=Uu 0 [] from rfl,this];simp only[KF];rw[Zm];have ae:=fun {Q:G->Hp->Prop}=>DP (P:=P) (h:=h) (Q:=Q) hz;rw[ae]
 cases c<;>rfl
theorem Qk{e:L}{l:List (Int × G)}{n:Int}{x:G}(ht:mK P t=A e)(hm:h[b]? = A (Jt l)):
  IP P t (.map (A b)) (M D n) x K h=K undef (h.setIfInBounds b (Jt (ins l n x))):=by
 obtain⟨k,hu,hk⟩:=Lv ht;unfold IP Instr.mapUpdate;rw[Zm,ZH hu];simp only;rw[Zm];apply propext;rw[Mt hm];simp only;rw[Zm,Mv hk,Zm];show hw P (Instr.findKey k (M D n) (Uu 0 l)) _ h↔_;rw[Ok hk];have st:∀(es:Array MapEntry) (c:Nat) (Q:Unit->Hp->Prop),hw P (setObj b (.map es c)) Q h↔Q () (h.setIfInBounds b (.map es c)):=fun es c Q=>
  ⟨fun H=>H.2,fun H=>⟨⟨_,hm,rfl⟩,H⟩⟩
 cases hp:KF l n 0 with
 | none=>
  simp only;rw[st];have e1:(Obj.map ((Uu 0 l).toArray.push ⟨M D n,x,(J l)⟩) ((J l)+1))=Jt (ins l n x):=by
   rw[qD hp x];unfold Jt;rw[iL,List.push_toArray,aw,bp];rfl
  rw[e1]
 | some p=>
  obtain⟨i,u⟩:=p;obtain⟨m,h1,h2,h3,h4⟩:=qE (i:=0) hp;obtain rfl:i=m:=pA;simp only;rw[Zm];have e0:(((Uu 0 l).toArray[i]?).map (·.key)).getD (M D n)=M D n:=by
   rw[aD,h3];rfl
  have e2:∀(Q:G->Hp->Prop),hw P (Instr.keyThatStays (M D n) (M D n)) Q h=Q (M D n) h:=fun Q=>by
   unfold Instr.keyThatStays;have:Instr.sameBits 10000 (M D n) (M D n)=true:=by simp[Instr.sameBits]
   rw[if_pos this];rfl
  rw[e0,e2,st];have e1:(Obj.map ((Uu 0 l).toArray.modify i fun e=>{ e with key:=M D n,val:=x }) (J l))=Jt (ins l n x):=by
   unfold Jt;rw[h4 x,bp];have hlen:(ins l n x).length=(J l):=by
    have e5:(Uu 0 (ins l n x)).length=(Uu 0 l).length:=by rw[h4 x];simp
    rw[VY,VY]at e5;exact e5
   rw[hlen]
   congr 1
   apply bh;intro j;rw[Array.getElem?_modify,aD,aD,List.getElem?_set];by_cases hj:i=j
   .subst hj;rw[if_pos rfl,if_pos rfl,h3,if_pos (by rw[VY];exact h2)];rw[bp];rfl
   .rw[if_neg hj,if_neg hj]
  rw[e1]
theorem R7{cs:Array Bool}{e:L}{l:List (Int × G)}(ht:mK P t=A e)(hm:h[b]? = A (Jt l)):PZ P T .len #[t] ty cs [.map (A b)] K h=K (M D (J l)) h:=by
 obtain⟨k,hu,hk⟩:=Lv ht;show hw P (do pure (.value (<-Builtin.len_ #[t] ty #[.map (A b)]))) (JA P T K) h=_;rw[Zm];show hw P (do
  match <-underlying t,(Value.map (A b)) with
  | .string,.string s=>pure (goInt s.size)
  | .array n _,_=>pure (goInt n)
  | .pointer arr,_=>
   let .array n _ <-underlying arr|stuck "len: pointer to array expected"
   pure (goInt n)
  | .slice _,O _ n _=>pure (goInt n)
  | .map _ _,.map U|.chan _ _,.chan U=>pure (goInt 0)
  | .map _ _,.map (A r)=>
   let .map entries _ <-getObj r|stuck "len: map expected"
   pure (goInt entries.size)
  | .chan _ _,.chan (A r)=>
   let .chan _ buf _ _ _ timer <-getObj r|stuck "len: channel expected"
   pure (goInt (if timer then 0 else buf.size))
  | _,_=>stuck "len: string, array, pointer to array, slice, map or channel expected") K h=_
 rw[Zm,ZH hu];simp only;rw[Zm];apply propext;rw[Mt hm];simp only[br,VY];exact Iff.rfl
def tkp(P:aa)(t:L):Bool:=match P.underlying t with|some (.pointer _)=>true|_=>false
def tkm(P:aa)(t:L):Bool:=match P.underlying t with|some (.map _ _)=>true|_=>false
def tkf(P:aa)(t:L):Bool:=match P.underlying t with|some (.func _ _ _)=>true|_=>false
theorem yo(h:tkp P t=true):∃e,P.underlying t=A (.pointer e):=by
 unfold tkp at h;split at h
 .exact⟨_,aac⟩
 .cases h
theorem yp(h:tkm P t=true):∃k e,P.underlying t=A (.map k e):=by
 unfold tkm at h;split at h
 .exact⟨_,_,aac⟩
 .cases h
theorem aS(h:tkf P t=true):∃a b c,P.underlying t=A (.func a b c):=by
 unfold tkf at h;split at h
 .exact⟨_,_,_,aac⟩
 .cases h
theorem G6(ht:tkp P t=true){a:Option Addr}{Q:Bool->Hp->Prop}:hw P (Op.equal t (.pointer a) (.pointer U)) Q h=Q a.isNone h:=by
 obtain⟨e,hu⟩:=yo ht;unfold Op.equal Op.maxDepth Op.equalIn;rw[Zm,ZH hu]
 cases a<;>rfl
theorem run_eq_map(ht:tkm P t=true){a:Option Nat}{Q:Bool->Hp->Prop}:hw P (Op.equal t (.map a) (.map U)) Q h=Q a.isNone h:=by
 obtain⟨k,e,hu⟩:=yp ht;unfold Op.equal Op.maxDepth Op.equalIn;rw[Zm,ZH hu]
 cases a<;>rfl
theorem DR(ht:tkf P t=true){f:Fn}{x y:Array G}{Q:Bool->Hp->Prop}:hw P (Op.equal t (.func f x y) .nilFunc) Q h=Q false h:=by
 obtain⟨a,b,c,hu⟩:=aS ht;unfold Op.equal Op.maxDepth Op.equalIn;rw[Zm,ZH hu];rfl
theorem DS(ht:tkf P t=true){Q:Bool->Hp->Prop}:hw P (Op.equal t .nilFunc .nilFunc) Q h=Q true h:=by
 obtain⟨a,b,c,hu⟩:=aS ht;unfold Op.equal Op.maxDepth Op.equalIn;rw[Zm,ZH hu];rfl
theorem Bv{a b:G}{r:Bool}(hg:∀{Q:Unit->Hp->Prop},hw P (eqGuard .eql t x y a b) Q h=Q () h)(hb:binOp .eql t a b=do pure (Z (<-Op.equal t a b)))(he:∀{Q:Bool->Hp->Prop},hw P (Op.equal t a b) Q h=Q r h):XP P .eql t x y a b K h=K (Z r) h:=by
 unfold XP;rw[Zm,hg,hb,Zm,he];rfl
theorem iN{a b:G}{r:Bool}(hg:∀{Q:Unit->Hp->Prop},hw P (eqGuard .neq t x y a b) Q h=Q () h)(hb:binOp .neq t a b=do pure (Z (!(<-Op.equal t a b))))(he:∀{Q:Bool->Hp->Prop},hw P (Op.equal t a b) Q h=Q r h):XP P .neq t x y a b K h=K (Z (!r)) h:=by
 unfold XP;rw[Zm,hg,hb,Zm,he];rfl
@[go_sem] theorem Zfr{a:Option Addr}(ht:tkp P t=true):XP P .eql t x y (.pointer a) (.pointer U) K h=K (Z a.isNone) h:=Bv rfl rfl (G6 ht)
@[go_sem] theorem Zfs{a:Option Addr}(ht:tkp P t=true):XP P .neq t x y (.pointer a) (.pointer U) K h=K (Z (!a.isNone)) h:=iN rfl rfl (G6 ht)
@[go_sem] theorem Zft{a:Option Nat}(ht:tkm P t=true):XP P .eql t x y (.map a) (.map U) K h=K (Z a.isNone) h:=Bv rfl rfl (run_eq_map ht)
@[go_sem] theorem ZgV{f:Fn}{u v:Array G}(ht:tkf P t=true):XP P .eql t x y (.func f u v) .nilFunc K h=K (Z false) h:=Bv rfl rfl (DR ht)
@[go_sem] theorem ZgW(ht:tkf P t=true):XP P .eql t x y .nilFunc .nilFunc K h=K (Z true) h:=Bv rfl rfl (DS ht)
@[go_sem] theorem ZgX{f:Fn}{u v:Array G}(ht:tkf P t=true):XP P .neq t x y (.func f u v) .nilFunc K h=K (Z true) h:=iN rfl rfl (DR ht)
@[go_sem] theorem ZgY(ht:tkf P t=true):XP P .neq t x y .nilFunc .nilFunc K h=K (Z false) h:=iN rfl rfl (DS ht)
end
inductive aT{α β:Type}(R:α->β->Prop):List α->List β->Prop
 | nil:aT R [] []
 | cons {a:α} {b:β} {l:List α} {k:List β}:R a b->aT R l k->aT R (a :: l) (b :: k)
section
variable {τ:Type}
structure Kp(S:τ->Prop)(o:Nat->Option τ)(h:Hp)(o':Nat->Option τ)(h':Hp):Prop where
 size:h.size<=h'.size
 Zf:∀b,b<h.size->(∀t,o b=A t->¬S t)->h'[b]? = h[b]? /\ o' b=o b
 stay:∀b,b<h.size->∀t,o b=A t->S t->∃t',o' b=A t'/\S t'
 new:∀b,h.size<=b->∀t,o' b=A t->S t
 Yn:∀b,h'.size<=b->o' b=U
variable {S S':τ->Prop} {o o' o'':Nat->Option τ} {h h' Kw:Hp}
def Vz(o:Nat->Option τ)(h:Hp):Prop:=∀b,h.size<=b->o b=U
theorem Kp.refl(d:Vz o h)(S:τ->Prop):Kp S o h o h:=
 ⟨a2 _,fun _ _ _=>⟨rfl,rfl⟩,fun _ _ t ht hs=>⟨t,ht,hs⟩,fun b hb t ht=>(by rw[d b hb]at ht;cases ht),d⟩
theorem Kp.mono(k:Kp S o h o' h')(hs:∀t,S t->S' t):Kp S' o h o' h':=
 ⟨k.size,fun b hb hn=>k.Zf b hb fun t ht q=>hn t ht (hs t q),fun b hb t ht q=>by
  by_cases p:S t
  .obtain⟨t',h1,h2⟩:=k.stay b hb t ht p;exact⟨t',h1,hs _ h2⟩
  .exact⟨t,by rw[(k.Zf b hb fun u hu=>by rw[ht]at hu;cases hu;exact p).2,ht],q⟩,fun b hb t ht=>hs _ (k.new b hb t ht),k.Yn⟩
theorem Kp.trans(k:Kp S o h o' h')(l:Kp S o' h' o'' Kw):Kp S o h o'' Kw:=by
 refine⟨Nat.le_trans k.size l.size,fun b hb hn=>?_,fun b hb t ht hs=>?_,fun b hb t ht=>?_,l.Yn⟩
 .obtain⟨h1,h2⟩:=k.Zf b hb hn;obtain⟨h3,h4⟩:=l.Zf b (bk hb k.size) fun t ht=>hn t (by rw[<-h2];exact ht);exact⟨h3.trans h1,h4.trans h2⟩
 .obtain⟨t',h1,h2⟩:=k.stay b hb t ht hs;exact l.stay b (bk hb k.size) t' h1 h2
 .by_cases Qi:h'.size<=b
  .exact l.new b Qi t ht
  .have ZT:b<h'.size:=pA
   cases ho:o' b with
   | none=>
    have:=(l.Zf b ZT fun u hu=>by rw[ho]at hu;cases hu).2;rw[this,ho]at ht;cases ht
   | some t1=>
    obtain⟨t2,h1,h2⟩:=l.stay b ZT t1 ho (k.new b hb t1 ho);rw[h1]at ht;cases ht;exact h2
theorem Kp.get(k:Kp S o h o' h'){x:Obj}(hx:h[b]? = A x)(hn:∀t,o b=A t->¬S t):h'[b]? = A x:=by
 rw[(k.Zf b (Za hx) hn).1,hx]
theorem Kp.Zq(k:Kp S o h o' h'){x:Obj}(hx:h[b]? = A x)(hn:∀t,o b=A t->¬S t):o' b=o b:=(k.Zf b (Za hx) hn).2
theorem Kp.free(k:Kp S o h o' h'){x:Obj}(hx:h[b]? = A x)(hn:o b=U):h'[b]? = A x/\o' b=U:=by
 have NY:∀t,o b=A t->¬S t:=fun t ht=>by rw[hn]at ht;cases ht
 exact⟨k.get hx NY,(k.Zq hx NY).trans hn⟩
theorem Kp.G7(d:Vz o h)(b:Zj h.size h h')(S:τ->Prop):Kp S o h o h':=
 ⟨b.size,fun k hk _=>⟨b.block k hk,rfl⟩,fun _ _ t ht hs=>⟨t,ht,hs⟩,fun k hk t ht=>(by rw[d k hk]at ht;cases ht),fun k hk=>d k (Nat.le_trans b.size hk)⟩
theorem Kp.Yz(k:Kp S o h o' h')(b:Zj h'.size h' Kw):Kp S o h o' Kw:=k.trans (Kp.G7 k.Yn b S)
theorem Kp.push(k:Kp S o h o' h')(x:Obj):Kp S o h o' (h'.push x):=k.Yz ((Zj.refl _ _).add x)
theorem Kp.set(k:Kp S o h o' h'){t:τ}(hb:o' b=A t)(hs:S t)(x:Obj):Kp S o h o' (h'.setIfInBounds b x):=by
 refine k.trans ⟨by rw[aN];exact a2 _,fun c hc hn=>⟨?_,rfl⟩,fun _ _ t ht hs=>⟨t,ht,hs⟩,fun c hc t ht=>(by rw[k.Yn c hc]at ht;cases ht),fun c hc=>k.Yn c (by rw[aN]at hc;exact hc)⟩;rw[am,if_neg (fun e=>hn t (by rw[<-e];exact hb) hs)]
theorem Kp.yq(k:Kp S o h o' h')(hb:h.size<=b)(x:Obj):Kp S o h o' (h'.setIfInBounds b x):=by
 refine⟨by rw[aN];exact k.size,fun c hc hn=>⟨?_,(k.Zf c hc hn).2⟩,k.stay,k.new,fun c hc=>k.Yn c (by rw[aN]at hc;exact hc)⟩;rw[am,if_neg (fun e=>by omega)];exact (k.Zf c hc hn).1
def QZ(o:Nat->Option τ)(b:Nat)(t:τ):Nat->Option τ:=fun c=>if c=b then A t else o c
theorem X2{t:τ}:QZ o b t b=A t:=if_pos rfl
theorem X7{c:Nat}{t:τ}(hc:c≠b):QZ o b t c=o c:=if_neg hc
theorem Kp.Ol(k:Kp S o h o' h'){t:τ}(hb:h.size<=b)(ZT:b<h'.size)(hs:S t):Kp S o h (QZ o' b t) h':=
 ⟨k.size,fun c hc hn=>⟨(k.Zf c hc hn).1,by rw[X7 pA];exact (k.Zf c hc hn).2⟩,fun c hc u hu hsu=>by rw[X7 pA];exact k.stay c hc u hu hsu,
  fun c hc u hu=>by
  by_cases C0:c=b
  .subst C0;rw[X2]at hu;cases hu;exact hs
  .rw[X7 C0]at hu;exact k.new c hc u hu,
  fun c hc=>by rw[X7 pA];exact k.Yn c hc⟩
def XB(o:Nat->Option τ)(t:τ)(E:L)(n:Nat)(h:Hp)(v:G)(m:Nat)(cs:List G):Prop:=
 ((∃p,v=O p 0 0)/\m=0/\cs=[]) \/
 ∃b k cap pre ZG,o b=A t/\v=O (A ⟨b,k,U⟩) m cap/\h[b]? = A (a5 (pre++(cs++ZG)).toArray E (0,0))/\(J pre)=k/\(J cs)=m*n/\(J ZG)=(cap-m)*n/\m<=cap
variable {t:τ} {E:L} {n m:Nat} {v:G} {cs:List G}
theorem XB.nil(o:Nat->Option τ)(t:τ)(E:L)(n:Nat)(h:Hp):XB o t E n h (O U 0 0) 0 []:=.inl ⟨⟨_,rfl⟩,rfl,rfl⟩
theorem XB.Zf(s:XB o t E n h v m cs)(k:Kp S o h o' h')(hn:¬S t):XB o' t E n h' v m cs:=by
 rcases s with s|⟨b,j,cap,pre,ZG,h1,h2,h3,h4,h5,h6,h7⟩
 .exact .inl s
 .have NY:∀u,o b=A u->¬S u:=fun u hu=>by rw[h1]at hu;cases hu;exact hn
  exact .inr ⟨b,j,cap,pre,ZG,by rw[k.Zq h3 NY,h1],h2,k.get h3 NY,h4,h5,h6,h7⟩
theorem XB.sl(s:XB o t E n h v m cs):Sl n h v m cs:=by
 rcases s with⟨⟨p,rfl⟩,rfl,rfl⟩|⟨b,j,cap,pre,ZG,h1,rfl,h3,h4,h5,h6,h7⟩
 .exact⟨p,0,rfl,IQ,fun Y7=>absurd rfl Y7⟩
 .exact Th h3 h5 h4.symm
theorem XB.length(s:XB o t E n h v m cs):(J cs)=m*n:=by
 rcases s with⟨_,rfl,rfl⟩|⟨b,j,cap,pre,ZG,h1,h2,h3,h4,h5,h6,h7⟩
 .simp
 .exact h5
theorem XB.ZP(s:XB o t E n h v m cs):∃p c,v=O p m c/\m<=c:=by
 rcases s with⟨⟨p,rfl⟩,rfl,rfl⟩|⟨b,j,cap,pre,ZG,h1,rfl,h3,h4,h5,h6,h7⟩
 .exact⟨p,0,rfl,a2 _⟩
 .exact⟨_,cap,rfl,h7⟩
theorem XB.tail{p:Option Addr}{c:Nat}(s:XB o t E n h (O p m c) m cs){k:Nat}(hk:k<=m):XB o t E n h (O (if c=k then p else p.map (·.add (k*n))) (m-k) (c-k)) (m-k) (cs.drop (k*n)):=by
 rcases s with⟨⟨q,h1⟩,h2,h3⟩|⟨b,j,cap,pre,ZG,h1,h2,h3,h4,h5,h6,h7⟩
 .simp only[Value.slice.injEq]at h1;obtain⟨rfl,rfl,rfl⟩:=h1;have e:k=0:=pA;subst e;subst h3;exact .inl ⟨⟨_,rfl⟩,rfl,IQ⟩
 .simp only[Value.slice.injEq]at h2;obtain⟨rfl,_,rfl⟩:=h2;have hmn:k*n<=m*n:=bd _ hk;by_cases hc:c=k
  .have hm:m=k:=pA;rw[if_pos hc];refine .inl ⟨⟨A ⟨b,j,U⟩,by rw[hc,hm,Nat.sub_self]⟩,pA,?_⟩;exact List.drop_eq_nil_of_le (by rw[h5,hm];exact a2 _)
  .rw[if_neg hc];refine .inr ⟨b,j+k*n,c-k,pre++cs.take (k*n),ZG,h1,by rw[Option.map_some,XR],?_,?_,?_,?_,pA⟩
   .rw[a8,<-a8 (List.take _ _),List.take_append_drop];exact h3
   .rw[aw,List.length_take,h4,h5];omega
   .rw[bx,h5,Nat.sub_mul]
   .rw[h6];congr 1;omega
variable {P:aa} {T:a4} {K:G->Hp->Prop} {F:Env} {ty:L}
theorem aU{a b c vs:List G}{i:Nat}(hi:i=(J a)+(J b))(hv:(J vs)<=(J c)):Xd (a++(b++c)) i vs=a++((b++vs)++c.drop (J vs)):=by
 subst hi;have e1:a++(b++c)=(a++b)++c:=by rw[a8]
 rw[e1,<-aw,Tp,UZ _ _ hv];simp
theorem Q8{sT xT E' k bytes:Nat}{s:G}{news zs:List G}{cb:Array Bool}(VV:QY P sT=A E)(Bc:P.underlying xT=A (.slice E'))(hn:tn P E=A n)(hz:tz P E=A zs)(io:zs.length=n)(O1:tb P E=A bytes)(Zq:XB o t E n h v m cs)(d:Vz o h)(src:Sl n h s k news)(X3:news.all YE=true)(Xf:(m+k)*bytes<=140737488355328)(GO:1<=bytes)(H:∀v' o' h',XB o' t E n h' v' (m+k) (cs++news)->Kp (fun u=>u=t) o h o' h'->(∀b,b<h.size->o' b=o b)->K v' h'):PZ P T .append #[sT,xT] ty cb [v,s] K h:=by
 unfold QY at VV;split at VV
 .rename_i e' hu;simp only[Option.some.injEq]at VV;subst VV;show hw P (do pure (.value (<-a0 #[sT,xT] ty #[v,s]))) (JA P T K) h;rw[Zm];show hw P (a0 #[sT,xT] ty #[v,s]) K h;obtain⟨i0,PQ⟩:∃i,P.info? e'=A i:=by
   unfold tn at hn
   cases hi:P.info? e' with
   | none=>rw[hi]at hn;cases hn
   | some i=>exact⟨i,rfl⟩
  have Mn:i0.bytes=bytes:=by unfold tb at O1;rw[PQ]at O1;simpa using O1
  obtain⟨z0,AN,iq⟩:∃z,i0.zero=A z/\z.cells.toList=zs:=by
   unfold tz at hz;rw[PQ]at hz
   cases Gc:i0.zero with
   | none=>rw[aO,Gc]at hz;cases hz
   | some z=>rw[aO,Gc]at hz;exact⟨z,rfl,by simpa using hz⟩
  obtain⟨base,cap,hv,vf⟩:=Zq.ZP;subst hv;have qr:∀{Q:G->Hp->Prop} (g:Hp),hw P (zeroValue e') Q g=Q z0 g:=fun {Q} g=>by
   unfold zeroValue;rw[Zm,X8 PQ];simp only[AN];rfl
  have VW:news.length=k*n:=by obtain⟨_,_,_,hl,_⟩:=src;exact hl
  simp only[a0,aD,bb,a3,Zm,ZO,ZH hu,ZH Bc,run_sizeOf hn,bl,if_false,src.lenOf,bA,if_true];by_cases Jx:m+k<=cap
  .rw[if_pos Jx,Zm];refine YF src ?_;rcases Zq with⟨⟨p,h1⟩,h2,h3⟩|⟨b,j,GP,pre,ZG,h1,h2,h3,h4,h5,h6,h7⟩
   .simp only[Value.slice.injEq]at h1;obtain⟨rfl,rfl,rfl⟩:=h1;have hk:k=0:=pA;subst hk;subst h3;have Y7:news=[]:=a7 (by simpa using VW);subst Y7;have hK:K (.slice base (0+0) 0) h:=H _ o h (.inl ⟨⟨_,rfl⟩,rfl,rfl⟩) (Kp.refl d _) (fun _ _=>rfl)
    cases base<;>exact hK
   .simp only[Value.slice.injEq]at h2;obtain⟨rfl,_,rfl⟩:=h2;simp only[Zm,XR];have RV:news.length<=ZG.length:=by rw[VW,h6];exact bd _ pA
    refine YZ (e:=e') (lo:=0) (hi:=0) rfl (a2 _) news 0 h (pre++(cs++ZG)).toArray h3 ?_ X3 ?_
    .simp;rw[h4,<-h5];omega
    .simp only[ZO,bw];refine H _ o _ (.inr ⟨b,j,cap,pre,ZG.drop news.length,h1,rfl,?_,h4,?_,?_,Jx⟩) ((Kp.refl d (fun u=>u=t)).set h1 rfl _) (fun _ _=>rfl)
     .rw[am,if_pos rfl,if_pos (Za h3)];rw[aU (by rw[h4,h5]) RV]
     .rw[aw,h5,VW,Nat.add_mul]
     .rw[bx,h6,VW,<-Nat.sub_mul];congr 1;omega
  .rw[if_neg Jx];have Wx:¬Builtin.nextslicecap (m+k) cap*i0.bytes>2 ^ 48:=by
    rw[Mn];have:=Tq (m+k) cap bytes pA Xf;omega
   have iu:¬i0.bytes=0:=by rw[Mn];omega
   simp only[Zm,X8 PQ,iu,or_false,and_false,if_false,if_neg Wx];intro q;obtain⟨c,hc⟩:=ZL (Question.cut (Question.appendCap (m+k) cap e') q);have xP:m+k<=c:=by rw[hc];simp only[Question.cut];omega
   rw[<-hc];have T3:∀{Q:Unit->Hp->Prop} (b:Nat) (g:Hp),Q () g->hw P (askRoom b) Q g:=fun {Q} b g q=>by
    unfold askRoom;split<;>exact q
   refine T3 _ _ (YF Zq.sl (YF src ?_));rw[qr];have xQ:z0.cells.size=n:=by rw[<-io,<-iq];simp
   refine H (.slice (A ⟨h.size,0,U⟩) (m+k) c) (QZ o h.size t) _ (.inr ⟨h.size,0,c,[],(al z0.cells (c-(m+k))).toList,X2,rfl,?_,rfl,?_,?_,xP⟩) (((Kp.refl d _).push _).Ol (a2 _) IQ rfl) (fun b hb=>X7 pA)
   .rw[Array.getElem?_push_size];simp
   .rw[aw,Zq.length,VW,Nat.add_mul]
   .rw[be,Xs,xQ]
 .cases VV
theorem G8{sT xT E' k off cap:Nat}{s:G}{pre ZG news zs:List G}{cb:Array Bool}(VV:QY P sT=A E)(Bc:P.underlying xT=A (.slice E'))(hn:tn P E=A n)(hz:tz P E=A zs)(hb:h[b]? = A (a5 (pre++(cs++ZG)).toArray E (0,0)))(ho:off=(J pre))(hl:(J cs)=m*n)(src:Sl n h s k news)(X3:news.all YE=true)(Jx:m+k<=cap)(Xf:k*n<=(J ZG))(H:K (O (A ⟨b,off,U⟩) (m+k) cap) (h.setIfInBounds b (a5 (pre++((cs++news)++ZG.drop (k*n))).toArray E (0,0)))):PZ P T .append #[sT,xT] ty cb [O (A ⟨b,off,U⟩) m cap,s] K h:=by
 unfold QY at VV;split at VV
 .rename_i e' hu;simp only[Option.some.injEq]at VV;subst VV;show hw P (do pure (.value (<-a0 #[sT,xT] ty #[O (A ⟨b,off,U⟩) m cap,s]))) (JA P T K) h;rw[Zm];show hw P (a0 #[sT,xT] ty #[O (A ⟨b,off,U⟩) m cap,s]) K h;obtain⟨i0,PQ⟩:∃i,P.info? e'=A i:=by
   unfold tn at hn
   cases hi:P.info? e' with
   | none=>rw[hi]at hn;cases hn
   | some i=>exact⟨i,rfl⟩
  obtain⟨z0,AN,iq⟩:∃z,i0.zero=A z/\z.cells.toList=zs:=by
   unfold tz at hz;rw[PQ]at hz
   cases Gc:i0.zero with
   | none=>rw[aO,Gc]at hz;cases hz
   | some z=>rw[aO,Gc]at hz;exact⟨z,rfl,by simpa using hz⟩
  have VW:(J news)=k*n:=by obtain⟨_,_,_,hl,_⟩:=src;exact hl
  simp only[a0,aD,bb,a3,Zm,ZO,ZH hu,ZH Bc,run_sizeOf hn,bl,if_false,src.lenOf,bA,if_true];rw[if_pos Jx,Zm];refine YF src ?_;simp only[Zm,XR];refine YZ (e:=e') (lo:=0) (hi:=0) rfl (a2 _) news 0 h (pre++(cs++ZG)).toArray hb ?_ X3 ?_
  .simp;rw[ho,hl.symm];omega
  .simp only[ZO,bw];have e:Xd (pre++(cs++ZG)) (off+m*n) news=pre++((cs++news)++ZG.drop (k*n)):=by
    rw[aU (by rw[ho,hl]) pA,VW]
   rw[e];exact H
 .cases VV
theorem KH{sT:L}{zs:List G}{cb:Array Bool}{off k c:Nat}{pre Ku post:List G}(VV:QY P sT=A E)(hz:tz P E=A zs)(io:(J zs)=n)(Bw:zs.all YE=true)(hb:h[b]? = A (a5 (pre++(Ku++post)).toArray E (0,0)))(ho:off=(J pre))(hl:(J Ku)=k*n)(H:∀new:List G,(J new)=(J Ku)->K (.tuple #[]) (h.setIfInBounds b (a5 (pre++(new++post)).toArray E (0,0)))):PZ P T .clear #[sT] ty cb [O (A ⟨b,off,U⟩) k c] K h:=by
 unfold QY at VV;split at VV
 .rename_i e' hu;simp only[Option.some.injEq]at VV;subst VV;show hw P (do pure (.value (<-bB #[sT] ty #[O (A ⟨b,off,U⟩) k c]))) (JA P T K) h;rw[Zm];show hw P (bB #[sT] ty #[O (A ⟨b,off,U⟩) k c]) K h;have same:h.setIfInBounds b (a5 (pre++(Ku++post)).toArray e' (0,0))=h:=by
   apply bh;intro j;rw[am];by_cases hj:b=j
   .subst hj;rw[if_pos rfl,if_pos (Za hb),hb]
   .rw[if_neg hj]
  show hw P (do
   match <-underlying sT,(Value.slice (A ⟨b,off,U⟩) k c) with
   | _,.map U|_,O U _ _|_,O _ 0 _=>pure ()
   | _,.map (A r)=>
    let .map _ clock <-getObj r|stuck "clear: map expected"
    setObj r (.map #[] clock)
   | .slice elem,O (A a) n _=>
    storeCells a (al (<-zeroValue elem).cells n).toList
   | _,_=>stuck "clear: map or slice expected"
   pure (.tuple #[])) K h
  rw[Zm,ZH hu]
  cases k with
  | zero=>
   have h0:Ku=[]:=a7 (by rw[hl];simp);subst h0;have:=H [] rfl;rw[same]at this;exact this
  | succ k=>
   obtain⟨i0,PQ⟩:∃i,P.info? e'=A i:=by
    unfold tz at hz
    cases hi:P.info? e' with
    | none=>rw[hi]at hz;cases hz
    | some i=>exact⟨i,rfl⟩
   obtain⟨z0,AN,iq⟩:∃z,i0.zero=A z/\z.cells.toList=zs:=by
    unfold tz at hz;rw[PQ]at hz
    cases Gc:i0.zero with
    | none=>rw[aO,Gc]at hz;cases hz
    | some z=>rw[aO,Gc]at hz;exact⟨z,rfl,by simpa using hz⟩
   have qr:∀{Q:G->Hp->Prop} (g:Hp),hw P (zeroValue e') Q g=Q z0 g:=fun {Q} g=>by
    unfold zeroValue;rw[Zm,X8 PQ];simp only[AN];rfl
   simp only[Zm];rw[qr];have xQ:z0.cells.size=n:=by rw[<-io,<-iq];simp
   have fS:(al z0.cells (k+1)).toList.length=(J Ku):=by rw[be,Xs,xQ,hl]
   refine YZ (a:=⟨b,off,U⟩) (e:=e') (lo:=0) (hi:=0) rfl (a2 _) _ 0 h (pre++(Ku++post)).toArray hb ?_ ?_ ?_
   .simp only[br,aw,fS];omega
   .rw[a9];intro x hx;have hx:x∈al z0.cells (k+1):=by simpa using hx
    have Mw:x∈zs:=by
     rw[<-iq];unfold al at hx;rw[Array.mem_map]at hx;obtain⟨i,hi,rfl⟩:=hx;rw[Array.mem_range]at hi;have GC:0<z0.cells.size:=by
      rcases Nat.eq_zero_or_pos z0.cells.size with q|q
      .rw[q,Nat.mul_zero]at hi;omega
      .exact q
     have ZT:i%z0.cells.size<z0.cells.size:=Nat.mod_lt _ GC;rw[getElem!_pos z0.cells _ ZT];simp
    exact a9.1 Bw x Mw
   .simp only[bw];have e1:Xd (pre++(Ku++post)).toArray.toList off (al z0.cells (k+1)).toList=pre++((al z0.cells (k+1)).toList++post):=Sj ho fS;rw[e1];exact H _ fS
 .cases VV
end
section
variable {P:aa} {T:a4} {K:G->Hp->Prop} {F:Env} {h:Hp} {ty:L}
end
section
variable {P:aa} {T:a4} {K:G->Hp->Prop} {F:Env} {h:Hp} {ty:L}
end
end Go.V
