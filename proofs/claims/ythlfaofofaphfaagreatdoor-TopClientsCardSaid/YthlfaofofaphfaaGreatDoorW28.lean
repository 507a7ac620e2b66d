/- Part W28. -/
import Derived.Test.YthlfaofofaphfaaGreatDoorW21
import Derived.Sort.Grow
import Derived.Deep.Draws
import Derived.Lib.UnsafeStr
open Go.Value renaming int→M,slice→O,bool→Z
open Go.IntKind renaming i64→D
open Go.Obj renaming cells→a7
open List renaming length→J,length_append→aI,getElem?_toArray→aU,getElem?_cons_succ→a5,eq_nil_of_length_eq_zero→a9,append_assoc→ba,all_eq_true→bb,length_cons→bc,getElem?_cons_zero→bd,size_toArray→bx,length_drop→bA,mem_cons→bK
open Nat renaming le_refl→a4,mul_le_mul_right→bf,lt_of_lt_of_le→bn,zero_add→bw,add_zero→bz
open Option renaming bind_some→a1,some→A,none→U
open Array renaming getElem?_setIfInBounds→aw,size_setIfInBounds→a0,getElem?_eq_none→be,length_toList→bg,ext_getElem?→bl
open Bool renaming and_eq_true→al,not_true→bh,false_or→bk,false_eq_true→bo,not_eq_true'→br,not_false→bC
open Go.Builtin renaming zeroCells→au,append_→a2,clear_→bG
open Go.Region renaming ready→Y,noSelect_spec→a3,free_spec→a8,binds→bp,noSelect→bB,free→bR
open Go renaming Value→G,TypeId→L,Program→aa,Operand→am,World→a6
namespace Go.V
set_option linter.unusedVariables false
set_option linter.unusedSimpArgs false
variable{b:Nat}{t:L}{x y:am}
section
variable {P:aa} {T:a6} {ty:L} {F:Env} {h:Hp} {K:G->Hp->Prop}
def Ie(P:aa)(t:L)(m x:G)(c:Bool)(K:G->Hp->Prop)(h:Hp):Prop:=hw P (Instr.lookup t m x c) K h
def vV(P:aa)(t:L)(K:G->Hp->Prop)(h:Hp):Prop:=hw P (Instr.makeMap t U) K h
@[go_sem] theorem gq{m:am}{c:Bool}:TQ P T (.lookup t m x c) ty K F h=Ie P t (ev F m) (ev F x) c K h:=by
 show hw P (do pure (Next.value (<-Instr.lookup t (ev F m) (ev F x) c))) (Jt P T K) h=_;rw[Zm];rfl
@[go_sem] theorem AQ:TQ P T (.makeMap t U) ty K F h=vV P t K h:=by
 show hw P (do pure (Next.value (<-Instr.makeMap t U))) (Jt P T K) h=_;rw[Zm];rfl
@[go_sem] theorem ZfN{m:am}{c:Bool}:Ee P T ⟨U,.lookup t m x c,ty, "", #[],U⟩ K F h=Ie P t (ev F m) (ev F x) c K h:=gq
@[go_sem] theorem Zes:Ee P T ⟨U,.makeMap t U,ty, "", #[],U⟩ K F h=vV P t K h:=AQ
@[go_sem] theorem ZjO:vV P t K h=K (.map (A h.size)) (h.push (.map #[] 0)):=rfl
variable {α:Type} [DecidableEq α] {enc:α->List G}
theorem Db{e:L}{v:G}(hz:(P.info? e).bind (·.zero)=A v){Q:G->Hp->Prop}:hw P (zeroValue e) Q h=Q v h:=by
 cases hi:P.info? e with
 | none=>rw[hi]at hz;cases hz
 | some i=>
  rw[hi]at hz;unfold zeroValue;rw[Zm,XZ hi];have hz:i.zero=A v:=hz;simp only[hz];rfl
theorem NO{es:Array MapEntry}{c:Nat}(hm:h[b]? = A (.map es c)){Q:Obj->Hp->Prop}:hw P (getObj b) Q h↔Q (.map es c) h:=
 ⟨fun⟨o,h1,_,h2⟩=>(by rw[hm]at h1;cases h1;exact h2),fun H=>⟨_,hm,rfl,H⟩⟩
end
section
variable {P:aa} {n:Nat} {T:a6} {N:Env->Hp->Prop} {X:Nat->Env->Hp->Prop} {R:Env->Hp->Prop} {F:Env} {h:Hp}
def MR(P:aa)(T:a6)(ops:Array Oper)(S:Hp->Prop)(W:List Nat)(N:Env->Hp->Prop):Nat->Array Bool->Env->Hp->Prop
 | 0,listed,F,h=>Y .any ops listed=[]/\N F h
 | k+1,listed,F,h=>(Y .any ops listed=[]->N F h) /\
   ∀i∈Y .any ops listed,Uq P T ops i (fun F' h'=>(i∈W\/(S h->S h'))/\MR P T ops S W N k (listed.setIfInBounds i true) F' h') F h
theorem Et{ops:Array Oper}{S:Hp->Prop}{W:List Nat}:∀(k:Nat) (listed:Array Bool) (F:Env) (h:Hp),MR P T ops S W N k listed F h->eJ P T ops (fun _=>True) N k listed F h:=by
 intro k
 induction k with
 | zero=>intro listed F h H;exact H
 | succ k ih=>intro listed F h H;exact⟨H.1,fun i hi=>J9 (fun F' h' q=>⟨trivial,ih _ _ _ q.2⟩) (H.2 i hi)⟩
theorem TZ{ops:Array Oper}{S S1:Hp->Prop}{W:List Nat}{i:Nat}{oi:Oper}{v:G}(hi:ops[i]? = A oi)(Af:∀(j:Nat) (o:Oper) cs b,ops[j]? = A o->o.op ≠ .select cs b)(hW:(∀h,S1 h)\/((∀h,S h->S1 h)/\∀j∈W,∃f,Vb ops f j i=true)):
  ∀(k:Nat) (listed:Array Bool) (F:Env) (h:Hp),QG ops listed ->
   (∀j oj,ops[j]? = A oj->j≠i->listed.getD j true=false->(∀e∈oj.after,bp .any e=true->e.on≠i)->oi.apart ops oj=true) ->
   i∈Y .any ops listed->U0 P T ops S1 oi v F->((∀h,S1 h)\/S h) ->
   MR P T ops S W N k (listed.setIfInBounds i true) (Yz F oi.dst v) h->MR P T ops S W N (k+1) listed F h:=by
 intro k
 induction k with
 | zero=>
  intro listed F h _ _ hr hy hS H;have hS1:S1 h:=hS.elim (fun q=>q h) (fun q=>hW.elim (fun p=>p h) (fun p=>p.1 h q));refine⟨fun h=>(by rw[h]at hr;cases hr),fun j hj=>?_⟩;by_cases TO:j=i
  .subst TO;exact hy.opI hi hS1 ⟨.inr id,H⟩
  .have:=ready_mono hj TO;rw[H.1]at this
   cases this
 | succ k ih=>
  intro listed F h JZ KW hr hy hS H;have hS1:S1 h:=hS.elim (fun q=>q h) (fun q=>hW.elim (fun p=>p h) (fun p=>p.1 h q));refine⟨fun h=>(by rw[h]at hr;cases hr),fun j hj=>?_⟩;by_cases TO:j=i
  .subst TO;exact hy.opI hi hS1 ⟨.inr id,H⟩
  .have h1:=H.2 j (ready_mono hj TO);obtain⟨Ag,oj,nj,XY⟩:=mem_ready.1 hj;have Ce:∀e∈oj.after,bp .any e=true->e.on≠i:=fun e he hb heq=>by
    have h1:=XY e he hb;have h0:=(mem_ready.1 hr).1;rw[heq]at h1;rcases Nat.lt_or_ge i listed.size with h'|h'
    .simp[h']at h0 h1;rw[h0]at h1;cases h1
    .simp[be h']at h1
   have h2:=HS nj (KW j oj nj TO Ag Ce) (fun cs b=>Af i oi cs b hi) (fun cs b=>Af j oj cs b nj) hy h1;have HU:∀k ok,ops[k]? = A ok->k≠i->(listed.setIfInBounds j true).getD k true=false ->
     (∀e∈ok.after,bp .any e=true->e.on≠i)->oi.apart ops ok=true:=fun k ok hk hki hun ku=>by
    refine KW k ok hk hki ?_ ku;by_cases kv:j=k
    .subst kv;exact Ag
    .rw[getD_set_ne true kv]at hun;exact hun
   refine J9 (fun F' h' h3=>?_) h2;refine⟨h3.2.1,ih (listed.setIfInBounds j true) F' h' (JZ.set hj) HU (ready_mono hr (Ne.symm TO)) h3.1 ?_ ?_⟩
   .rcases hW with hW|⟨hW1,hW2⟩
    .exact .inl hW
    .rcases hS with hS|hS
     .exact .inl hS
     .rcases h3.2.1 with hjw|hss
      .obtain⟨f,hf⟩:=hW2 j hjw;have h1:=KZ JZ hf hj;have h0:=(mem_ready.1 hr).1;rcases Nat.lt_or_ge i listed.size with h'|h'
       .simp[h']at h0 h1;rw[h0]at h1;cases h1
       .simp[be h']at h1
      .exact .inr (hss hS)
   .rw[Array.setIfInBounds_comm _ _ TO];exact h3.2.2
inductive Tz where
 | nil
 | p (i:Nat) (t:Tz)
 | q (i:Nat) (t:Tz)
 | s (i:Nat) (t:Tz)
 | w (i:Nat) (t:Tz)
 | or (i:Nat) (t:Tz) (r:Tz)
def Tz.alts:Tz->List Nat
 | .s i _=>[i]
 | .w i _=>[i]
 | .or i _ r=>i :: r.alts
 | _=>[]
def Tz.MO:Tz->Bool
 | .q _ _=>true
 | .p _ t=>t.MO
 | .s _ t=>t.MO
 | .or _ t r=>t.MO||r.MO
 | _=>false
def Tz.ok(ops:Array Oper)(W:List Nat):Tz->Nat->Array Bool->Bool->Bool
 | .nil,n,listed,_=>Nat.beq n 0&&(Y .any ops listed).isEmpty
 | .p _ _,0,_,_=>false
 | .p i t,n+1,listed,_=>((Y .any ops listed).contains i&&bR .any ops listed i)&&t.ok ops W n (listed.setIfInBounds i true) true
 | .q _ _,0,_,_=>false
 | .q i t,n+1,listed,_=>((Y .any ops listed).contains i&&(bR .any ops listed i&&W.all fun j=>Vb ops kL j i))&&t.ok ops W n (listed.setIfInBounds i true) true
 | .s _ _,0,_,_=>false
 | .s i t,n+1,listed,b=>(!b||(Y .any ops listed == [i]))&&t.ok ops W n (listed.setIfInBounds i true) true
 | .w _ _,0,_,_=>false
 | .w i t,n+1,listed,b=>((!b||(Y .any ops listed == [i]))&&(W.contains i&&!t.MO))&&t.ok ops W n (listed.setIfInBounds i true) true
 | .or _ _ _,0,_,_=>false
 | .or i t r,n+1,listed,b=>(!b||(Y .any ops listed == i :: r.alts))&&(t.ok ops W n (listed.setIfInBounds i true) true&&r.ok ops W (n+1) listed false)
def BY(P:aa)(T:a6)(ops:Array Oper)(S:Hp->Prop)(N:Env->Hp->Prop):Tz->Env->Hp->Prop
 | .nil,F,h=>N F h
 | .p i t,F,h=>match ops[i]? with
  | some o=>if YI ops o F then ∃v,(∀h',Ee P T o (fun v' LW=>v'=v/\LW=h') F h')/\BY P T ops S N t (Yz F o.dst v) h else BY P T ops S N t (Yz F o.dst undef) h
  | none=>False
 | .q i t,F,h=>match ops[i]? with
  | some o=>if YI ops o F then ∃v,(∀h',S h'->Ee P T o (fun v' LW=>v'=v/\LW=h') F h')/\BY P T ops S N t (Yz F o.dst v) h else BY P T ops S N t (Yz F o.dst undef) h
  | none=>False
 | .s i t,F,h=>Uq P T ops i (fun F' h'=>S h'/\BY P T ops S N t F' h') F h
 | .w i t,F,h=>Uq P T ops i (fun F' h'=>BY P T ops S N t F' h') F h
 | .or i t r,F,h=>Uq P T ops i (fun F' h'=>S h'/\BY P T ops S N t F' h') F h/\BY P T ops S N r F h
theorem CG{ops:Array Oper}{S:Hp->Prop}{W:List Nat}(hs:bB ops=true):∀(t:Tz),
  (∀(k:Nat) (listed:Array Bool) (F:Env) (h:Hp),QG ops listed->t.ok ops W k listed true=true->(t.MO=true->S h)->BY P T ops S N t F h->MR P T ops S W N k listed F h) /\
  (∀(k:Nat) (listed:Array Bool) (F:Env) (h:Hp),QG ops listed->t.ok ops W (k+1) listed false=true->BY P T ops S N t F h->∀j∈t.alts,j∈Y .any ops listed->Uq P T ops j (fun F' h'=>(j∈W\/(S h->S h'))/\MR P T ops S W N k (listed.setIfInBounds j true) F' h') F h):=by
 intro t
 induction t with
 | nil=>
  refine⟨fun k listed F h JZ hB hS H=>?_,fun k listed F h _ _ _ j hj=>by cases hj⟩;simp only[Tz.ok,al,List.isEmpty_iff]at hB;obtain⟨h1,h2⟩:=hB;obtain rfl:=Nat.eq_of_beq_eq_true h1;exact⟨h2,H⟩
 | p i t ih=>
  refine⟨fun k listed F h JZ hB hS H=>?_,fun k listed F h _ _ _ j hj=>by cases hj⟩
  cases k with
  | zero=>simp[Tz.ok]at hB
  | succ k=>
   simp only[Tz.ok,al]at hB;obtain⟨⟨h1,h2⟩,h3⟩:=hB;have Nz:i∈Y .any ops listed:=by simpa using h1
   obtain⟨_,o,ho,_⟩:=mem_ready.1 Nz;simp only[BY,ho]at H;split at H
   .rename_i HQ;obtain⟨v,hv,H⟩:=H;exact TZ (S1:=fun _=>True) ho (a3 hs) (.inl fun _=>trivial) k listed F h JZ (a8 ho h2) Nz (.inl ⟨HQ,fun h' _=>hv h'⟩) (.inl fun _=>trivial) (ih.1 k _ _ _ (JZ.set Nz) h3 hS H)
   .rename_i HQ;exact TZ (S1:=fun _=>True) ho (a3 hs) (.inl fun _=>trivial) k listed F h JZ (a8 ho h2) Nz (.inr ⟨by simpa using HQ,rfl⟩) (.inl fun _=>trivial) (ih.1 k _ _ _ (JZ.set Nz) h3 hS H)
 | q i t ih=>
  refine⟨fun k listed F h JZ hB hS H=>?_,fun k listed F h _ _ _ j hj=>by cases hj⟩;have hS:=hS rfl
  cases k with
  | zero=>simp[Tz.ok]at hB
  | succ k=>
   simp only[Tz.ok,al]at hB;obtain⟨⟨h1,h2,hw⟩,h3⟩:=hB;have Nz:i∈Y .any ops listed:=by simpa using h1
   obtain⟨_,o,ho,_⟩:=mem_ready.1 Nz;have hW:∀j∈W,∃f,Vb ops f j i=true:=fun j hj=>⟨kL,bb.1 hw j hj⟩
   simp only[BY,ho]at H;split at H
   .rename_i HQ;obtain⟨v,hv,H⟩:=H;exact TZ ho (a3 hs) (.inr ⟨fun _ q=>q,hW⟩) k listed F h JZ (a8 ho h2) Nz (.inl ⟨HQ,hv⟩) (.inr hS) (ih.1 k _ _ _ (JZ.set Nz) h3 (fun _=>hS) H)
   .rename_i HQ;exact TZ ho (a3 hs) (.inr ⟨fun _ q=>q,hW⟩) k listed F h JZ (a8 ho h2) Nz (.inr ⟨by simpa using HQ,rfl⟩) (.inr hS) (ih.1 k _ _ _ (JZ.set Nz) h3 (fun _=>hS) H)
 | s i t ih=>
  have second:∀(k:Nat) (listed:Array Bool) (F:Env) (h:Hp),QG ops listed->i∈Y .any ops listed->t.ok ops W k (listed.setIfInBounds i true) true=true->BY P T ops S N (.s i t) F h->Uq P T ops i (fun F' h'=>(i∈W\/(S h->S h'))/\MR P T ops S W N k (listed.setIfInBounds i true) F' h') F h:=by
   intro k listed F h JZ Nz hB H;exact J9 (fun F' h' q=>⟨.inr fun _=>q.1,ih.1 k _ _ _ (JZ.set Nz) hB (fun _=>q.1) q.2⟩) H
  refine⟨fun k listed F h JZ hB hS H=>?_,fun k listed F h JZ hB H j hj hr=>?_⟩
  .cases k with
   | zero=>simp[Tz.ok]at hB
   | succ k=>
    simp only[Tz.ok,al,bh,bk,beq_iff_eq]at hB;refine⟨fun h0=>(by rw[hB.1]at h0;cases h0),fun j hj=>?_⟩;have hr:=hj;rw[hB.1]at hj;have hj:j=i:=by simpa using hj
    subst hj;exact second k listed F h JZ hr hB.2 H
  .simp only[Tz.ok,al]at hB;have hj:j=i:=by simpa [Tz.alts] using hj
   subst hj;exact second k listed F h JZ hr hB.2 H
 | w i t ih=>
  have second:∀(k:Nat) (listed:Array Bool) (F:Env) (h:Hp),QG ops listed->i∈Y .any ops listed->i∈W->t.MO=false->t.ok ops W k (listed.setIfInBounds i true) true=true->BY P T ops S N (.w i t) F h->Uq P T ops i (fun F' h'=>(i∈W\/(S h->S h'))/\MR P T ops S W N k (listed.setIfInBounds i true) F' h') F h:=by
   intro k listed F h JZ Nz hw hq hB H;exact J9 (fun F' h' q=>⟨.inl hw,ih.1 k _ _ _ (JZ.set Nz) hB (fun e=>by rw[hq]at e;cases e) q⟩) H
  refine⟨fun k listed F h JZ hB hS H=>?_,fun k listed F h JZ hB H j hj hr=>?_⟩
  .cases k with
   | zero=>simp[Tz.ok]at hB
   | succ k=>
    simp only[Tz.ok,al,bh,bk,beq_iff_eq,br]at hB;obtain⟨⟨h1,h2,h3⟩,h4⟩:=hB;refine⟨fun h0=>(by rw[h1]at h0;cases h0),fun j hj=>?_⟩;have hr:=hj;rw[h1]at hj;have hj:j=i:=by simpa using hj
    subst hj;exact second k listed F h JZ hr (by simpa using h2) h3 h4 H
  .simp only[Tz.ok,al,br]at hB;obtain⟨⟨h1,h2,h3⟩,h4⟩:=hB;have hj:j=i:=by simpa [Tz.alts] using hj
   subst hj;exact second k listed F h JZ hr (by simpa using h2) h3 h4 H
 | or i t r iht ihr=>
  have second:∀(k:Nat) (listed:Array Bool) (F:Env) (h:Hp),QG ops listed->t.ok ops W k (listed.setIfInBounds i true) true=true->r.ok ops W (k+1) listed false=true->BY P T ops S N (.or i t r) F h->∀j∈(Tz.or i t r).alts,j∈Y .any ops listed->Uq P T ops j (fun F' h'=>(j∈W\/(S h->S h'))/\MR P T ops S W N k (listed.setIfInBounds j true) F' h') F h:=by
   intro k listed F h JZ hB hR H j hj hr;rcases bK.1 hj with hj|hj
   .subst hj;exact J9 (fun F' h' q=>⟨.inr fun _=>q.1,iht.1 k _ _ _ (JZ.set hr) hB (fun _=>q.1) q.2⟩) H.1
   .exact ihr.2 k listed F h JZ hR H.2 j hj hr
  refine⟨fun k listed F h JZ hB hS H=>?_,fun k listed F h JZ hB H j hj hr=>?_⟩
  .cases k with
   | zero=>simp[Tz.ok]at hB
   | succ k=>
    simp only[Tz.ok,al,bh,bk,beq_iff_eq]at hB;refine⟨fun h0=>(by rw[hB.1]at h0;cases h0),fun j hj=>?_⟩;have hr:=hj;rw[hB.1]at hj;exact second k listed F h JZ hB.2.1 hB.2.2 H j hj hr
  .simp only[Tz.ok,al]at hB;exact second k listed F h JZ hB.2.1 hB.2.2 H j hj hr
def AS(P:aa)(T:a6)(op:Op)(ty:L)(C:G->Prop)(F:Env):Prop:=
 match op with
 | .load _ _=>False
 | op=>SF P T 0 #[] op ty C F
theorem Dc{op:Op}{ty:L}{C:G->Prop}(H:AS P T op ty C F):∃v,(∀h',TQ P T op ty (fun v' LW=>v'=v/\LW=h') F h')/\C v:=by
 cases op<;>first|exact H|exact H.elim
def zPg(P:aa)(T:a6)(K:Env->Hp->Prop)(F:Env)(h:Hp)(d:Option Tmp)(op:Op)(ty:L)(v:G)(b:Bool):Prop:=JF v b (AS P T op ty (fun v=>K (Yz F d v) h) F) (K (Yz F d undef) h)
def zP(P:aa)(T:a6)(ops:List Oper)(K:Env->Hp->Prop)(F:Env)(h:Hp)(o:Option Oper):Prop:=
 match o with
 | some ⟨d,op,ty,_,_,U⟩=>AS P T op ty (fun v=>K (Yz F d v) h) F
 | some ⟨d,op,ty,_,_,A (j,b)⟩=>zPg P T K F h d op ty (Wo ops F j) b
 | none=>False
def Ea(P:aa)(T:a6)(ops:List Oper)(B:Nat)(h0:Hp)(N:Env->Hp->Prop):Tz->Env->Hp->Prop
 | .nil,F,h=>N F h
 | .p i t,F,h=>zP P T ops (Ea P T ops B h0 N t) F h (nth ops i)
 | .q i t,F,h=>wQ P T ops B h0 (Ea P T ops B h0 N t) F h (nth ops i)
 | .s i t,F,h=>wS P T ops B h0 (Ea P T ops B h0 N t) F h (nth ops i)
 | .w i t,F,h=>wW P T ops (Ea P T ops B h0 N t) F h (nth ops i)
 | .or i t r,F,h=>wS P T ops B h0 (Ea P T ops B h0 N t) F h (nth ops i)/\Ea P T ops B h0 N r F h
theorem gu{ops:List Oper}{B:Nat}{h0:Hp}{N:Env->Hp->Prop}:∀(t:Tz) (F:Env) (h:Hp),Ea P T ops B h0 N t F h->BY P T ops.toArray (fun h'=>Zk B h0 h') N t F h:=by
 intro t
 induction t with
 | nil=>intro F h H;exact H
 | p i t ih=>
  intro F h H;simp only[Ea]at H;simp only[BY]
  cases ho:nth ops i with
  | none=>rw[ho]at H;exact H.elim
  | some o=>
   rw[Tf ho];rw[ho]at H;obtain⟨d,op,ty,pos,WY,g⟩:=o
   cases g with
   | none=>
    show (if YI ops.toArray _ F=true then _ else _);rw[if_pos (by rfl)];obtain⟨v,hv,H⟩:=Dc H;exact⟨v,fun h'=>QF (hv h'),ih _ _ H⟩
   | some jb=>
    obtain⟨j,b⟩:=jb;show (if YI ops.toArray _ F=true then _ else _);rcases XI ops F d op pos WY j b H with⟨hw,H⟩|⟨hw,H⟩
    .rw[if_pos hw];obtain⟨v,hv,H⟩:=Dc H;exact⟨v,fun h'=>QF (hv h'),ih _ _ H⟩
    .rw[hw,if_neg Hg];exact ih _ _ H
 | q i t ih=>
  intro F h H;simp only[Ea]at H;simp only[BY]
  cases ho:nth ops i with
  | none=>rw[ho]at H;exact H.elim
  | some o=>
   rw[Tf ho];rw[ho]at H;obtain⟨d,op,ty,pos,WY,g⟩:=o
   cases g with
   | none=>
    show (if YI ops.toArray _ F=true then _ else _);rw[if_pos (by rfl)];obtain⟨v,hv,H⟩:=VY H;exact⟨v,fun h' hs=>QF (hv h' hs),ih _ _ H⟩
   | some jb=>
    obtain⟨j,b⟩:=jb;show (if YI ops.toArray _ F=true then _ else _);rcases XI ops F d op pos WY j b H with⟨hw,H⟩|⟨hw,H⟩
    .rw[if_pos hw];obtain⟨v,hv,H⟩:=VY H;exact⟨v,fun h' hs=>QF (hv h' hs),ih _ _ H⟩
    .rw[hw,if_neg Hg];exact ih _ _ H
 | s i t ih=>intro F h H;exact MP ih H
 | w i t ih=>intro F h H;exact AL ih H
 | or i t r iht ihr=>intro F h H;exact⟨MP iht H.1,ihr _ _ H.2⟩
def ZjQ(n:Nat)(ops:Array Oper)(W:List Nat)(t:Tz):Bool:=KT n ops&&(bB ops&&t.ok ops W ops.size (Array.replicate ops.size false) true)
theorem VS.z{id:Nat}{ops:List Oper}(B:Nat)(W:List Nat)(t:Tz)(hm:P.follows .mixedOrders=true)(Uk:ZjQ n ops.toArray W t=true)(H:Ea P T ops B h N t F h):VS P n T (.region id ops.toArray true) N X R F h:=by
 intro a w h1 h2 h3 h4;simp only[ZjQ,al]at Uk;obtain⟨k1,k2,k3⟩:=Uk;refine wp_region_any hm ?_;refine QE k1 _ _ F h (Et _ _ _ _ ((CG (S:=fun h'=>Zk B h h') k2 t).1 _ _ F h (Ib _ _) k3 (fun _=>Zk.refl _ _) (gu t F h H))) a _ h1 h2 h3 ⟨h4.heap,h4.tape,h4.os,h4.output⟩
variable {ops:List Oper} {B:Nat} {h0:Hp} {t r:Tz} {i j:Nat} {d:Option Tmp} {op:Op} {ty:L} {pos:String} {WY:Array Edge} {b c:Bool} {v:G} {K:Env->Hp->Prop} {C:G->Prop}
@[go_sem] theorem Znf:Ea P T ops B h0 N .nil F h=N F h:=rfl
@[go_sem] theorem Zwu:Ea P T ops B h0 N (.p i t) F h=zP P T ops (Ea P T ops B h0 N t) F h (nth ops i):=rfl
@[go_sem] theorem Zwv:Ea P T ops B h0 N (.q i t) F h=wQ P T ops B h0 (Ea P T ops B h0 N t) F h (nth ops i):=rfl
@[go_sem] theorem Zww:Ea P T ops B h0 N (.s i t) F h=wS P T ops B h0 (Ea P T ops B h0 N t) F h (nth ops i):=rfl
@[go_sem] theorem Zwx:Ea P T ops B h0 N (.w i t) F h=wW P T ops (Ea P T ops B h0 N t) F h (nth ops i):=rfl
@[go_sem] theorem Zqs:Ea P T ops B h0 N (.or i t r) F h=(wS P T ops B h0 (Ea P T ops B h0 N t) F h (nth ops i)/\Ea P T ops B h0 N r F h):=rfl
@[go_sem] theorem ZjR:zP P T ops K F h (A ⟨d,op,ty,pos,WY,U⟩)=AS P T op ty (wKq K F d h) F:=rfl
@[go_sem] theorem ZjS:zP P T ops K F h (A ⟨d,op,ty,pos,WY,A (j,b)⟩)=zPg P T K F h d op ty (Wo ops F j) b:=rfl
@[go_sem] theorem ZjT:zPg P T K F h d op ty (Z c) b=if c=b then AS P T op ty (wKq K F d h) F else K (Yz F d undef) h:=rfl
@[go_sem] theorem ZjU:AS P T (.move x) ty C F=SF P T 0 #[] (.move x) ty C F:=rfl
@[go_sem] theorem ZfO:AS P T (.assign x) ty C F=SF P T 0 #[] (.assign x) ty C F:=rfl
@[go_sem] theorem Zil{t:L}{x:am}{i:Nat}:AS P T (.fieldAddr t x i) ty C F=SF P T 0 #[] (.fieldAddr t x i) ty C F:=rfl
@[go_sem] theorem Zqt{t:L}{x i:am}:AS P T (.indexAddr t x i) ty C F=SF P T 0 #[] (.indexAddr t x i) ty C F:=rfl
@[go_sem] theorem ZjV{z:am}:AS P T (.pick x y z) ty C F=SF P T 0 #[] (.pick x y z) ty C F:=rfl
@[go_sem] theorem Zng:AS P T (.nilCheck x) ty C F=SF P T 0 #[] (.nilCheck x) ty C F:=rfl
@[go_sem] theorem Znh{op:BinOp}{t t':L}{x y:am}:AS P T (.binOp op t x y t') ty C F=SF P T 0 #[] (.binOp op t x y t') ty C F:=rfl
@[go_sem] theorem Zqu{op:UnOp}{t:L}{x:am}:AS P T (.unOp op t x) ty C F=SF P T 0 #[] (.unOp op t x) ty C F:=rfl
@[go_sem] theorem Zet{i:Nat}:AS P T (.extract x i) ty C F=SF P T 0 #[] (.extract x i) ty C F:=rfl
@[go_sem] theorem Zni{t:L}{x:am}{lo hi mx:Option am}:AS P T (.slice t x lo hi mx) ty C F=SF P T 0 #[] (.slice t x lo hi mx) ty C F:=rfl
@[go_sem] theorem Zim{t:L}{parts:Array (Nat × am)}:AS P T (.build t parts) ty C F=SF P T 0 #[] (.build t parts) ty C F:=rfl
@[go_sem] theorem ZjW{c:Call}:AS P T (.call c) ty C F=SF P T 0 #[] (.call c) ty C F:=rfl
end
def Yh{β:Type}:List (Int × β)->Int->Option β
 | [],_=>U
 | (a,v) :: r,k=>if a=k then A v else Yh r k
def ins{β:Type}:List (Int × β)->Int->β->List (Int × β)
 | [],k,v=>[(k,v)]
 | (a,x) :: r,k,v=>if a=k then (a,v) :: r else (a,x) :: ins r k v
def Vu{β γ:Type}(f:β->γ)(l:List (Int × β)):List (Int × γ):=l.map fun x=>(x.1,f x.2)
theorem Jm{β γ:Type}(f:β->γ):∀(l:List (Int × β)) (k:Int),Yh (Vu f l) k=(Yh l k).map f:=by
 intro l k
 induction l with
 | nil=>rfl
 | cons x l ih=>
  obtain⟨a,v⟩:=x;show (if a=k then A (f v) else Yh (Vu f l) k)=Option.map f (if a=k then A v else Yh l k);rw[ih];split<;>rfl
theorem PG{β γ:Type}(f:β->γ):∀(l:List (Int × β)) (k:Int) (v:β),Vu f (ins l k v)=ins (Vu f l) k (f v):=by
 intro l k v
 induction l with
 | nil=>rfl
 | cons x l ih=>
  obtain⟨a,u⟩:=x;show Vu f (if a=k then (a,v) :: l else (a,u) :: ins l k v)=if a=k then (a,f v) :: Vu f l else (a,f u) :: ins (Vu f l) k (f v)
  split
  .rfl
  .rw[<-ih];rfl
theorem If{β γ:Type}(f:β->γ)(l:List (Int × β)):(Vu f l).length=(J l):=List.length_map ..
theorem NS{β:Type}:∀(l:List (Int × β)) (k:Int) (v:β),(ins l k v).length=if (Yh l k).isSome=true then (J l) else (J l)+1:=by
 intro l k v
 induction l with
 | nil=>rfl
 | cons x l ih=>
  obtain⟨a,u⟩:=x;unfold ins Yh;by_cases h:a=k
  .rw[if_pos h,if_pos h];rfl
  .rw[if_neg h,if_neg h,bc,ih,bc];split<;>rfl
theorem Xf{β:Type}:∀(l:List (Int × β)) (k j:Int) (v:β),Yh (ins l k v) j=if k=j then A v else Yh l j:=by
 intro l k j v
 induction l with
 | nil=>rfl
 | cons x l ih=>
  obtain⟨a,u⟩:=x;unfold ins;by_cases h:a=k
  .subst h;rw[if_pos rfl];unfold Yh;by_cases hj:a=j
   .rw[if_pos hj,if_pos hj]
   .rw[if_neg hj,if_neg hj,if_neg hj]
  .rw[if_neg h];show (if a=j then A u else Yh (ins l k v) j)=if k=j then A v else if a=j then A u else Yh l j
   rw[ih];by_cases hj:a=j
   .rw[if_pos hj,if_pos hj,if_neg (fun e=>h (hj.trans e.symm))]
   .rw[if_neg hj,if_neg hj]
theorem vW{β:Type}{l:List (Int × β)}{k:Int}(h:Yh l k=U):∀x∈l,x.1≠k:=by
 induction l with
 | nil=>intro x hx;cases hx
 | cons y l ih=>
  obtain⟨a,u⟩:=y;unfold Yh at h;split at h
  .cases h
  .rename_i Y4;intro x hx;rcases bK.1 hx with rfl|hx
   .exact Y4
   .exact ih h x hx
theorem Rx{β:Type}{l:List (Int × β)}{k:Int}{v:β}(h:Yh l k=A v):(k,v)∈l:=by
 induction l with
 | nil=>cases h
 | cons y l ih=>
  obtain⟨a,u⟩:=y;unfold Yh at h;split at h
  .rename_i he
   cases h;subst he;exact List.mem_cons_self
  .exact List.mem_cons_of_mem _ (ih h)
section
variable {P:aa} {T:a6} {ty:L} {F:Env} {h:Hp} {K:G->Hp->Prop}
def Ul:Nat->List (Int × G)->List MapEntry
 | _,[]=>[]
 | i,(k,v) :: l=>⟨M D k,v,i⟩ :: Ul (i+1) l
def Jn(l:List (Int × G)):Obj:=.map (Ul 0 l).toArray (J l)
theorem VM:∀(l:List (Int × G)) (i:Nat),(Ul i l).length=(J l):=by
 intro l
 induction l with
 | nil=>intro i;rfl
 | cons x l ih=>intro i;obtain⟨k,v⟩:=x;simp[Ul,ih]
def L9(l:List (Int × G))(k:Int):Nat->Option (Nat × G):=fun j=>match l with
 | []=>U
 | (a,v) :: r=>if k=a then A (j,v) else L9 r k (j+1)
theorem AT(k:Int):∀(l:List (Int × G)) (i j:Nat),Instr.findNow (.int D) (M D k) (Ul i l) j=A (L9 l k j):=by
 intro l
 induction l with
 | nil=>intro i j;rfl
 | cons x l ih=>
  intro i j;obtain⟨a,v⟩:=x;unfold Ul Instr.findNow L9;simp only[Instr.sameNow,if_true];by_cases hk:k=a
  .subst hk;simp
  .rw[if_neg hk];have:(k == a)=false:=by simpa using hk
   rw[this];exact ih _ _
theorem vX(k:Int):∀(l:List (Int × G)) (j:Nat),(L9 l k j).map (·.2)=Yh l k:=by
 intro l
 induction l with
 | nil=>intro j;rfl
 | cons x l ih=>
  intro j;obtain⟨a,v⟩:=x;unfold L9 Yh;by_cases hk:k=a
  .rw[if_pos hk,if_pos hk.symm];rfl
  .rw[if_neg hk,if_neg (fun e=>hk e.symm)];exact ih _
theorem oL{k:Int}:∀{l:List (Int × G)} {j:Nat},L9 l k j=U->∀(v:G),ins l k v=l++[(k,v)]:=by
 intro l
 induction l with
 | nil=>intro j _ v;rfl
 | cons x l ih=>
  intro j h v;obtain⟨a,u⟩:=x;unfold L9 at h;split at h
  .cases h
  .rename_i hk;unfold ins;rw[if_neg (fun e=>hk e.symm),ih h v];rfl
theorem gv(k:Int)(v:G):∀(l:List (Int × G)) (i:Nat),Ul i (l++[(k,v)])=Ul i l++[⟨M D k,v,i+(J l)⟩]:=by
 intro l
 induction l with
 | nil=>intro i;rfl
 | cons x l ih=>intro i;obtain⟨a,u⟩:=x;simp only[List.cons_append,Ul,ih,bc];congr 4;omega
theorem oM{k:Int}:∀{l:List (Int × G)} {i j:Nat} {n:Nat} {u:G},L9 l k j=A (n,u)->∃m,n=m+j/\m<(J l)/\(Ul i l)[m]? = A ⟨M D k,u,i+m⟩/\∀v,Ul i (ins l k v)=(Ul i l).set m ⟨M D k,v,i+m⟩:=by
 intro l
 induction l with
 | nil=>intro i j n u h;cases h
 | cons x l ih=>
  intro i j n u h;obtain⟨a,w⟩:=x;unfold L9 at h;by_cases hk:k=a
  .subst hk;rw[if_pos rfl]at h
   cases h
   exact⟨0,nc,Hg,rfl,fun v=>by unfold ins;rw[if_pos rfl];rfl⟩
  .rw[if_neg hk]at h;obtain⟨m,h1,h2,h3,h4⟩:=ih (i:=i+1) h;refine⟨m+1,nc,by simpa using h2,?_,fun v=>?_⟩
   .simp only[Ul,a5];rw[h3];congr 2;omega
   .unfold ins;rw[if_neg (fun e=>hk e.symm)];simp only[Ul,List.set_cons_succ,h4];congr 3;omega
def Ig(P:aa)(t:L)(m k x:G)(K:G->Hp->Prop)(h:Hp):Prop:=hw P (Instr.mapUpdate t m k x) (fun _ h=>K undef h) h
@[go_sem] theorem Eu{m k:am}:TQ P T (.mapUpdate t m k x) ty K F h=Ig P t (ev F m) (ev F k) (ev F x) K h:=by
 show hw P (do let _ <-Instr.mapUpdate t (ev F m) (ev F k) (ev F x);pure Next.skip) (Jt P T K) h=_;rw[Zm];rfl
@[go_sem] theorem gx{m k:am}:TQ P T (.insert t m k x) ty K F h=Ig P t (ev F m) (ev F k) (ev F x) K h:=by
 show hw P (do let _ <-Instr.mapUpdate t (ev F m) (ev F k) (ev F x);pure Next.skip) (Jt P T K) h=_;rw[Zm];rfl
@[go_sem] theorem Za5{m k:am}:Ee P T ⟨U,.mapUpdate t m k x,ty, "", #[],U⟩ K F h=Ig P t (ev F m) (ev F k) (ev F x) K h:=Eu
@[go_sem] theorem ZfP{m k:am}:Ee P T ⟨U,.insert t m k x,ty, "", #[],U⟩ K F h=Ig P t (ev F m) (ev F k) (ev F x) K h:=gx
def kP(P:aa)(t:L):Option L:=match P.underlying t with
 | some (.map k e)=>(match P.underlying k with|some (.int D)=>A e|_=>U)
 | _=>U
theorem MS{e:L}(h:kP P t=A e):∃k,P.underlying t=A (.map k e)/\P.underlying k=A (.int D):=by
 unfold kP at h;split at h
 .rename_i k e' hu;split at h
  .rename_i hk
   cases h
   exact⟨k,hu,hk⟩
  .cases h
 .cases h
def tzv(P:aa)(t:L):Option G:=(P.info? t).bind (·.zero)
theorem NU{k:L}(hk:P.underlying k=A (.int D)){b:Bool}{n:Int}{Q:Unit->Hp->Prop}:hw P (Instr.checkKey b 10000 k (M D n)) Q h=Q () h:=by
 show hw P (do
  match <-underlying k,(Value.int D n) with
  | .interface _,.iface d x=>
   let info <-typeInfo d
   if !info.comparable then
    if b then runtimePanic (.unhashable d)
    runtimePanic (.error ("hash of unhashable type " ++ (<-typeStr d)))
   Instr.checkKey b 9999 d x
  | .array len elem,.agg cs=>
   for i in [0:len] do Instr.checkKey b 9999 elem (<-part elem cs (i*(<-sizeOf elem)))
  | .struct fields,.agg cs=>
   for f in fields do
    if f.name ≠ "_" then Instr.checkKey b 9999 f.type (<-part f.type cs f.offset)
  | .interface _,.nilIface=>pure ()
  | .interface _,_|.array _ _,_|.struct _,_=>stuck "map key: not a value of its type"
  | _,_=>pure ()) Q h=_
 rw[Zm,ZH hk];rfl
theorem PH{k:L}(hk:P.underlying k=A (.int D)){n:Int}{l:List (Int × G)}{Q:Option (Nat × G)->Hp->Prop}:hw P (Instr.findKey k (M D n) (Ul 0 l)) Q h=Q (L9 l n 0) h:=by
 unfold Instr.findKey;rw[Zm,ZH hk];simp only[AT];rfl
theorem Xc{e:L}{z:G}{l:List (Int × G)}{n:Int}{c:Bool}(ht:kP P t=A e)(hz:tzv P e=A z)(hm:h[b]? = A (Jn l)):
  Ie P t (.map (A b)) (M D n) c K h=K (if c=true then .tuple #[(Yh l n).getD z,Z (Yh l n).isSome] else (Yh l n).getD z) h:=by
 obtain⟨k,hu,hk⟩:=MS ht;unfold Ie Instr.lookup;rw[Zm,ZH hu];simp only;rw[Zm];apply propext;rw[NO hm];simp only;rw[Zm,ZN,Zm,NU hk,Zm,PH hk,<-vX n l 0]
 cases L9 l n 0 with
 | none=>
  simp only[Option.map_none,Option.getD_none,Option.isSome_none];rw[Zm];have An:=fun {Q:G->Hp->Prop}=>Db (P:=P) (h:=h) (Q:=Q) hz;rw[An]
  cases c<;>exact Iff.rfl
 | some p=>cases c<;>exact Iff.rfl
@[go_sem] theorem CI{e:L}{z:G}{n:Int}{c:Bool}(ht:kP P t=A e)(hz:tzv P e=A z):
  Ie P t (.map U) (M D n) c K h=K (if c=true then .tuple #[z,Z false] else z) h:=by
 obtain⟨k,hu,hk⟩:=MS ht;unfold Ie Instr.lookup;rw[Zm,ZH hu];simp only;rw[Zm,ZN,Zm,NU hk,Zm];have:=fun {Q:Option (Nat × G)->Hp->Prop}=>PH (P:=P) (h:=h) (k:=k) hk (n:=n) (l:=[]) (Q:=Q);rw[show (#[]:Array MapEntry).toList=Ul 0 [] from rfl,this];simp only[L9];rw[Zm];have An:=fun {Q:G->Hp->Prop}=>Db (P:=P) (h:=h) (Q:=Q) hz;rw[An]
 cases c<;>rfl
theorem Qb{e:L}{l:List (Int × G)}{n:Int}{x:G}(ht:kP P t=A e)(hm:h[b]? = A (Jn l)):
  Ig P t (.map (A b)) (M D n) x K h=K undef (h.setIfInBounds b (Jn (ins l n x))):=by
 obtain⟨k,hu,hk⟩:=MS ht;unfold Ig Instr.mapUpdate;rw[Zm,ZH hu];simp only;rw[Zm];apply propext;rw[NO hm];simp only;rw[Zm,NU hk,Zm];show hw P (Instr.findKey k (M D n) (Ul 0 l)) _ h↔_;rw[PH hk];have st:∀(es:Array MapEntry) (c:Nat) (Q:Unit->Hp->Prop),hw P (setObj b (.map es c)) Q h↔Q () (h.setIfInBounds b (.map es c)):=fun es c Q=>
  ⟨fun H=>H.2,fun H=>⟨⟨_,hm,rfl⟩,H⟩⟩
 cases hp:L9 l n 0 with
 | none=>
  simp only;rw[st];have e1:(Obj.map ((Ul 0 l).toArray.push ⟨M D n,x,(J l)⟩) ((J l)+1))=Jn (ins l n x):=by
   rw[oL hp x];unfold Jn;rw[gv,List.push_toArray,aI,bw];rfl
  rw[e1]
 | some p=>
  obtain⟨i,u⟩:=p;obtain⟨m,h1,h2,h3,h4⟩:=oM (i:=0) hp;obtain rfl:i=m:=nc;simp only;rw[Zm];have e0:(((Ul 0 l).toArray[i]?).map (·.key)).getD (M D n)=M D n:=by
   rw[aU,h3];rfl
  have e2:∀(Q:G->Hp->Prop),hw P (Instr.keyThatStays (M D n) (M D n)) Q h=Q (M D n) h:=fun Q=>by
   unfold Instr.keyThatStays;have:Instr.sameBits 10000 (M D n) (M D n)=true:=by simp[Instr.sameBits]
   rw[if_pos this];rfl
  rw[e0,e2,st];have e1:(Obj.map ((Ul 0 l).toArray.modify i fun e=>{ e with key:=M D n,val:=x }) (J l))=Jn (ins l n x):=by
   unfold Jn;rw[h4 x,bw];have hlen:(ins l n x).length=(J l):=by
    have e5:(Ul 0 (ins l n x)).length=(Ul 0 l).length:=by rw[h4 x];simp
    rw[VM,VM]at e5;exact e5
   rw[hlen]
   congr 1
   apply bl;intro j;rw[Array.getElem?_modify,aU,aU,List.getElem?_set];by_cases hj:i=j
   .subst hj;rw[if_pos rfl,if_pos rfl,h3,if_pos (by rw[VM];exact h2)];rw[bw];rfl
   .rw[if_neg hj,if_neg hj]
  rw[e1]
theorem Ry{cs:Array Bool}{e:L}{l:List (Int × G)}(ht:kP P t=A e)(hm:h[b]? = A (Jn l)):Pm P T .len #[t] ty cs [.map (A b)] K h=K (M D (J l)) h:=by
 obtain⟨k,hu,hk⟩:=MS ht;show hw P (do pure (.value (<-Builtin.len_ #[t] ty #[.map (A b)]))) (Jt P T K) h=_;rw[Zm];show hw P (do
  match <-underlying t,(Value.map (A b)) with
  | .string,.string s=>pure (goInt s.size)
  | .array n _,_=>pure (goInt n)
  | .pointer arr,_=>
   let .array n _ <-underlying arr|stuck "len: pointer to array expected"
   pure (goInt n)
  | .slice _,O _ n _=>pure (goInt n)
  | .map _ _,.map U|.chan _ _,.chan U=>pure (goInt 0)
  | .map _ _,.map (A r)=>
   let .map entries _ <-getObj r|stuck "len: map expected"
   pure (goInt entries.size)
  | .chan _ _,.chan (A r)=>
   let .chan _ buf _ _ _ timer <-getObj r|stuck "len: channel expected"
   pure (goInt (if timer then 0 else buf.size))
  | _,_=>stuck "len: string, array, pointer to array, slice, map or channel expected") K h=_
 rw[Zm,ZH hu];simp only;rw[Zm];apply propext;rw[NO hm];simp only[bx,VM];exact Iff.rfl
def tkp(P:aa)(t:L):Bool:=match P.underlying t with|some (.pointer _)=>true|_=>false
def tkm(P:aa)(t:L):Bool:=match P.underlying t with|some (.map _ _)=>true|_=>false
def tkf(P:aa)(t:L):Bool:=match P.underlying t with|some (.func _ _ _)=>true|_=>false
theorem vY(h:tkp P t=true):∃e,P.underlying t=A (.pointer e):=by
 unfold tkp at h;split at h
 .exact⟨_,aac⟩
 .cases h
theorem vZ(h:tkm P t=true):∃k e,P.underlying t=A (.map k e):=by
 unfold tkm at h;split at h
 .exact⟨_,_,aac⟩
 .cases h
theorem AU(h:tkf P t=true):∃a b c,P.underlying t=A (.func a b c):=by
 unfold tkf at h;split at h
 .exact⟨_,_,_,aac⟩
 .cases h
theorem Gq(ht:tkp P t=true){a:Option Addr}{Q:Bool->Hp->Prop}:hw P (Op.equal t (.pointer a) (.pointer U)) Q h=Q a.isNone h:=by
 obtain⟨e,hu⟩:=vY ht;unfold Op.equal Op.maxDepth Op.equalIn;rw[Zm,ZH hu]
 cases a<;>rfl
theorem run_eq_map(ht:tkm P t=true){a:Option Nat}{Q:Bool->Hp->Prop}:hw P (Op.equal t (.map a) (.map U)) Q h=Q a.isNone h:=by
 obtain⟨k,e,hu⟩:=vZ ht;unfold Op.equal Op.maxDepth Op.equalIn;rw[Zm,ZH hu]
 cases a<;>rfl
theorem Dd(ht:tkf P t=true){f:Fn}{x y:Array G}{Q:Bool->Hp->Prop}:hw P (Op.equal t (.func f x y) .nilFunc) Q h=Q false h:=by
 obtain⟨a,b,c,hu⟩:=AU ht;unfold Op.equal Op.maxDepth Op.equalIn;rw[Zm,ZH hu];rfl
theorem De(ht:tkf P t=true){Q:Bool->Hp->Prop}:hw P (Op.equal t .nilFunc .nilFunc) Q h=Q true h:=by
 obtain⟨a,b,c,hu⟩:=AU ht;unfold Op.equal Op.maxDepth Op.equalIn;rw[Zm,ZH hu];rfl
theorem CK{a b:G}{r:Bool}(hg:∀{Q:Unit->Hp->Prop},hw P (eqGuard .eql t x y a b) Q h=Q () h)(hb:binOp .eql t a b=do pure (Z (<-Op.equal t a b)))(he:∀{Q:Bool->Hp->Prop},hw P (Op.equal t a b) Q h=Q r h):XU P .eql t x y a b K h=K (Z r) h:=by
 unfold XU;rw[Zm,hg,hb,Zm,he];rfl
theorem gy{a b:G}{r:Bool}(hg:∀{Q:Unit->Hp->Prop},hw P (eqGuard .neq t x y a b) Q h=Q () h)(hb:binOp .neq t a b=do pure (Z (!(<-Op.equal t a b))))(he:∀{Q:Bool->Hp->Prop},hw P (Op.equal t a b) Q h=Q r h):XU P .neq t x y a b K h=K (Z (!r)) h:=by
 unfold XU;rw[Zm,hg,hb,Zm,he];rfl
@[go_sem] theorem Zev{a:Option Addr}(ht:tkp P t=true):XU P .eql t x y (.pointer a) (.pointer U) K h=K (Z a.isNone) h:=CK rfl rfl (Gq ht)
@[go_sem] theorem Zew{a:Option Addr}(ht:tkp P t=true):XU P .neq t x y (.pointer a) (.pointer U) K h=K (Z (!a.isNone)) h:=gy rfl rfl (Gq ht)
@[go_sem] theorem Zex{a:Option Nat}(ht:tkm P t=true):XU P .eql t x y (.map a) (.map U) K h=K (Z a.isNone) h:=CK rfl rfl (run_eq_map ht)
@[go_sem] theorem ZfQ{f:Fn}{u v:Array G}(ht:tkf P t=true):XU P .eql t x y (.func f u v) .nilFunc K h=K (Z false) h:=CK rfl rfl (Dd ht)
@[go_sem] theorem ZfR(ht:tkf P t=true):XU P .eql t x y .nilFunc .nilFunc K h=K (Z true) h:=CK rfl rfl (De ht)
@[go_sem] theorem ZfS{f:Fn}{u v:Array G}(ht:tkf P t=true):XU P .neq t x y (.func f u v) .nilFunc K h=K (Z true) h:=gy rfl rfl (Dd ht)
@[go_sem] theorem ZfT(ht:tkf P t=true):XU P .neq t x y .nilFunc .nilFunc K h=K (Z false) h:=gy rfl rfl (De ht)
end
inductive AV{α β:Type}(R:α->β->Prop):List α->List β->Prop
 | nil:AV R [] []
 | cons {a:α} {b:β} {l:List α} {k:List β}:R a b->AV R l k->AV R (a :: l) (b :: k)
section
variable {τ:Type}
structure Kp(S:τ->Prop)(o:Nat->Option τ)(h:Hp)(o':Nat->Option τ)(h':Hp):Prop where
 size:h.size<=h'.size
 Zf:∀b,b<h.size->(∀t,o b=A t->¬S t)->h'[b]? = h[b]? /\ o' b=o b
 stay:∀b,b<h.size->∀t,o b=A t->S t->∃t',o' b=A t'/\S t'
 new:∀b,h.size<=b->∀t,o' b=A t->S t
 Yn:∀b,h'.size<=b->o' b=U
variable {S S':τ->Prop} {o o' o'':Nat->Option τ} {h h' LW:Hp}
def Vp(o:Nat->Option τ)(h:Hp):Prop:=∀b,h.size<=b->o b=U
theorem Kp.refl(d:Vp o h)(S:τ->Prop):Kp S o h o h:=
 ⟨a4 _,fun _ _ _=>⟨rfl,rfl⟩,fun _ _ t ht hs=>⟨t,ht,hs⟩,fun b hb t ht=>(by rw[d b hb]at ht;cases ht),d⟩
theorem Kp.mono(k:Kp S o h o' h')(hs:∀t,S t->S' t):Kp S' o h o' h':=
 ⟨k.size,fun b hb hn=>k.Zf b hb fun t ht q=>hn t ht (hs t q),fun b hb t ht q=>by
  by_cases p:S t
  .obtain⟨t',h1,h2⟩:=k.stay b hb t ht p;exact⟨t',h1,hs _ h2⟩
  .exact⟨t,by rw[(k.Zf b hb fun u hu=>by rw[ht]at hu;cases hu;exact p).2,ht],q⟩,fun b hb t ht=>hs _ (k.new b hb t ht),k.Yn⟩
theorem Kp.trans(k:Kp S o h o' h')(l:Kp S o' h' o'' LW):Kp S o h o'' LW:=by
 refine⟨Nat.le_trans k.size l.size,fun b hb hn=>?_,fun b hb t ht hs=>?_,fun b hb t ht=>?_,l.Yn⟩
 .obtain⟨h1,h2⟩:=k.Zf b hb hn;obtain⟨h3,h4⟩:=l.Zf b (bn hb k.size) fun t ht=>hn t (by rw[<-h2];exact ht);exact⟨h3.trans h1,h4.trans h2⟩
 .obtain⟨t',h1,h2⟩:=k.stay b hb t ht hs;exact l.stay b (bn hb k.size) t' h1 h2
 .by_cases Qa:h'.size<=b
  .exact l.new b Qa t ht
  .have ZU:b<h'.size:=nc
   cases ho:o' b with
   | none=>
    have:=(l.Zf b ZU fun u hu=>by rw[ho]at hu;cases hu).2;rw[this,ho]at ht;cases ht
   | some t1=>
    obtain⟨t2,h1,h2⟩:=l.stay b ZU t1 ho (k.new b hb t1 ho);rw[h1]at ht;cases ht;exact h2
theorem Kp.get(k:Kp S o h o' h'){x:Obj}(hx:h[b]? = A x)(hn:∀t,o b=A t->¬S t):h'[b]? = A x:=by
 rw[(k.Zf b (Za hx) hn).1,hx]
theorem Kp.Zq(k:Kp S o h o' h'){x:Obj}(hx:h[b]? = A x)(hn:∀t,o b=A t->¬S t):o' b=o b:=(k.Zf b (Za hx) hn).2
theorem Kp.free(k:Kp S o h o' h'){x:Obj}(hx:h[b]? = A x)(hn:o b=U):h'[b]? = A x/\o' b=U:=by
 have Nl:∀t,o b=A t->¬S t:=fun t ht=>by rw[hn]at ht;cases ht
 exact⟨k.get hx Nl,(k.Zq hx Nl).trans hn⟩
theorem Kp.Gs(d:Vp o h)(b:Zk h.size h h')(S:τ->Prop):Kp S o h o h':=
 ⟨b.size,fun k hk _=>⟨b.block k hk,rfl⟩,fun _ _ t ht hs=>⟨t,ht,hs⟩,fun k hk t ht=>(by rw[d k hk]at ht;cases ht),fun k hk=>d k (Nat.le_trans b.size hk)⟩
theorem Kp.Yy(k:Kp S o h o' h')(b:Zk h'.size h' LW):Kp S o h o' LW:=k.trans (Kp.Gs k.Yn b S)
theorem Kp.push(k:Kp S o h o' h')(x:Obj):Kp S o h o' (h'.push x):=k.Yy ((Zk.refl _ _).add x)
theorem Kp.set(k:Kp S o h o' h'){t:τ}(hb:o' b=A t)(hs:S t)(x:Obj):Kp S o h o' (h'.setIfInBounds b x):=by
 refine k.trans ⟨by rw[a0];exact a4 _,fun c hc hn=>⟨?_,rfl⟩,fun _ _ t ht hs=>⟨t,ht,hs⟩,fun c hc t ht=>(by rw[k.Yn c hc]at ht;cases ht),fun c hc=>k.Yn c (by rw[a0]at hc;exact hc)⟩;rw[aw,if_neg (fun e=>hn t (by rw[<-e];exact hb) hs)]
theorem Kp.wh(k:Kp S o h o' h')(hb:h.size<=b)(x:Obj):Kp S o h o' (h'.setIfInBounds b x):=by
 refine⟨by rw[a0];exact k.size,fun c hc hn=>⟨?_,(k.Zf c hc hn).2⟩,k.stay,k.new,fun c hc=>k.Yn c (by rw[a0]at hc;exact hc)⟩;rw[aw,if_neg (fun e=>by omega)];exact (k.Zf c hc hn).1
def QS(o:Nat->Option τ)(b:Nat)(t:τ):Nat->Option τ:=fun c=>if c=b then A t else o c
theorem XT{t:τ}:QS o b t b=A t:=if_pos rfl
theorem XX{c:Nat}{t:τ}(hc:c≠b):QS o b t c=o c:=if_neg hc
theorem Kp.PI(k:Kp S o h o' h'){t:τ}(hb:h.size<=b)(ZU:b<h'.size)(hs:S t):Kp S o h (QS o' b t) h':=
 ⟨k.size,fun c hc hn=>⟨(k.Zf c hc hn).1,by rw[XX nc];exact (k.Zf c hc hn).2⟩,fun c hc u hu hsu=>by rw[XX nc];exact k.stay c hc u hu hsu,
  fun c hc u hu=>by
  by_cases Cg:c=b
  .subst Cg;rw[XT]at hu;cases hu;exact hs
  .rw[XX Cg]at hu;exact k.new c hc u hu,
  fun c hc=>by rw[XX nc];exact k.Yn c hc⟩
def Xz(o:Nat->Option τ)(t:τ)(E:L)(n:Nat)(h:Hp)(v:G)(m:Nat)(cs:List G):Prop:=
 ((∃p,v=O p 0 0)/\m=0/\cs=[]) \/
 ∃b k cap pre ZG,o b=A t/\v=O (A ⟨b,k,U⟩) m cap/\h[b]? = A (a7 (pre++(cs++ZG)).toArray E (0,0))/\(J pre)=k/\(J cs)=m*n/\(J ZG)=(cap-m)*n/\m<=cap
variable {t:τ} {E:L} {n m:Nat} {v:G} {cs:List G}
theorem Xz.nil(o:Nat->Option τ)(t:τ)(E:L)(n:Nat)(h:Hp):Xz o t E n h (O U 0 0) 0 []:=.inl ⟨⟨_,rfl⟩,rfl,rfl⟩
theorem Xz.Zf(s:Xz o t E n h v m cs)(k:Kp S o h o' h')(hn:¬S t):Xz o' t E n h' v m cs:=by
 rcases s with s|⟨b,j,cap,pre,ZG,h1,h2,h3,h4,h5,h6,h7⟩
 .exact .inl s
 .have Nl:∀u,o b=A u->¬S u:=fun u hu=>by rw[h1]at hu;cases hu;exact hn
  exact .inr ⟨b,j,cap,pre,ZG,by rw[k.Zq h3 Nl,h1],h2,k.get h3 Nl,h4,h5,h6,h7⟩
theorem Xz.sl(s:Xz o t E n h v m cs):Sl n h v m cs:=by
 rcases s with⟨⟨p,rfl⟩,rfl,rfl⟩|⟨b,j,cap,pre,ZG,h1,rfl,h3,h4,h5,h6,h7⟩
 .exact⟨p,0,rfl,Hg,fun Y4=>absurd rfl Y4⟩
 .exact VZ h3 h5 h4.symm
theorem Xz.length(s:Xz o t E n h v m cs):(J cs)=m*n:=by
 rcases s with⟨_,rfl,rfl⟩|⟨b,j,cap,pre,ZG,h1,h2,h3,h4,h5,h6,h7⟩
 .simp
 .exact h5
theorem Xz.ZP(s:Xz o t E n h v m cs):∃p c,v=O p m c/\m<=c:=by
 rcases s with⟨⟨p,rfl⟩,rfl,rfl⟩|⟨b,j,cap,pre,ZG,h1,rfl,h3,h4,h5,h6,h7⟩
 .exact⟨p,0,rfl,a4 _⟩
 .exact⟨_,cap,rfl,h7⟩
theorem Xz.tail{p:Option Addr}{c:Nat}(s:Xz o t E n h (O p m c) m cs){k:Nat}(hk:k<=m):Xz o t E n h (O (if c=k then p else p.map (·.add (k*n))) (m-k) (c-k)) (m-k) (cs.drop (k*n)):=by
 rcases s with⟨⟨q,h1⟩,h2,h3⟩|⟨b,j,cap,pre,ZG,h1,h2,h3,h4,h5,h6,h7⟩
 .simp only[Value.slice.injEq]at h1;obtain⟨rfl,rfl,rfl⟩:=h1;have e:k=0:=nc;subst e;subst h3;exact .inl ⟨⟨_,rfl⟩,rfl,Hg⟩
 .simp only[Value.slice.injEq]at h2;obtain⟨rfl,_,rfl⟩:=h2;have hmn:k*n<=m*n:=bf _ hk;by_cases hc:c=k
  .have hm:m=k:=nc;rw[if_pos hc];refine .inl ⟨⟨A ⟨b,j,U⟩,by rw[hc,hm,Nat.sub_self]⟩,nc,?_⟩;exact List.drop_eq_nil_of_le (by rw[h5,hm];exact a4 _)
  .rw[if_neg hc];refine .inr ⟨b,j+k*n,c-k,pre++cs.take (k*n),ZG,h1,by rw[Option.map_some,XJ],?_,?_,?_,?_,nc⟩
   .rw[ba,<-ba (List.take _ _),List.take_append_drop];exact h3
   .rw[aI,List.length_take,h4,h5];omega
   .rw[bA,h5,Nat.sub_mul]
   .rw[h6];congr 1;omega
variable {P:aa} {T:a6} {K:G->Hp->Prop} {F:Env} {ty:L}
theorem AW{a b c vs:List G}{i:Nat}(hi:i=(J a)+(J b))(hv:(J vs)<=(J c)):Y9 (a++(b++c)) i vs=a++((b++vs)++c.drop (J vs)):=by
 subst hi;have e1:a++(b++c)=(a++b)++c:=by rw[ba]
 rw[e1,<-aI,Tb,UM _ _ hv];simp
theorem QV{sT xT E' k bytes:Nat}{s:G}{news zs:List G}{cb:Array Bool}(VI:QR P sT=A E)(Co:P.underlying xT=A (.slice E'))(hn:tn P E=A n)(hz:tz P E=A zs)(fR:zs.length=n)(OC:tb P E=A bytes)(Zq:Xz o t E n h v m cs)(d:Vp o h)(src:Sl n h s k news)(XV:news.all YC=true)(Y7:(m+k)*bytes<=140737488355328)(Gf:1<=bytes)(H:∀v' o' h',Xz o' t E n h' v' (m+k) (cs++news)->Kp (fun u=>u=t) o h o' h'->(∀b,b<h.size->o' b=o b)->K v' h'):Pm P T .append #[sT,xT] ty cb [v,s] K h:=by
 unfold QR at VI;split at VI
 .rename_i e' hu;simp only[Option.some.injEq]at VI;subst VI;show hw P (do pure (.value (<-a2 #[sT,xT] ty #[v,s]))) (Jt P T K) h;rw[Zm];show hw P (a2 #[sT,xT] ty #[v,s]) K h;obtain⟨i0,Pg⟩:∃i,P.info? e'=A i:=by
   unfold tn at hn
   cases hi:P.info? e' with
   | none=>rw[hi]at hn;cases hn
   | some i=>exact⟨i,rfl⟩
  have NH:i0.bytes=bytes:=by unfold tb at OC;rw[Pg]at OC;simpa using OC
  obtain⟨z0,BV,fS⟩:∃z,i0.zero=A z/\z.cells.toList=zs:=by
   unfold tz at hz;rw[Pg]at hz
   cases Hv:i0.zero with
   | none=>rw[a1,Hv]at hz;cases hz
   | some z=>rw[a1,Hv]at hz;exact⟨z,rfl,by simpa using hz⟩
  obtain⟨base,cap,hv,tC⟩:=Zq.ZP;subst hv;have ov:∀{Q:G->Hp->Prop} (g:Hp),hw P (zeroValue e') Q g=Q z0 g:=fun {Q} g=>by
   unfold zeroValue;rw[Zm,XZ Pg];simp only[BV];rfl
  have VJ:news.length=k*n:=by obtain⟨_,_,_,hl,_⟩:=src;exact hl
  simp only[a2,aU,bd,a5,Zm,ZN,ZH hu,ZH Co,run_sizeOf hn,bo,if_false,src.lenOf,bC,if_true];by_cases Qg:m+k<=cap
  .rw[if_pos Qg,Zm];refine YA src ?_;rcases Zq with⟨⟨p,h1⟩,h2,h3⟩|⟨b,j,Gg,pre,ZG,h1,h2,h3,h4,h5,h6,h7⟩
   .simp only[Value.slice.injEq]at h1;obtain⟨rfl,rfl,rfl⟩:=h1;have hk:k=0:=nc;subst hk;subst h3;have Y4:news=[]:=a9 (by simpa using VJ);subst Y4;have hK:K (.slice base (0+0) 0) h:=H _ o h (.inl ⟨⟨_,rfl⟩,rfl,rfl⟩) (Kp.refl d _) (fun _ _=>rfl)
    cases base<;>exact hK
   .simp only[Value.slice.injEq]at h2;obtain⟨rfl,_,rfl⟩:=h2;simp only[Zm,XJ];have Rv:news.length<=ZG.length:=by rw[VJ,h6];exact bf _ nc
    refine YV (e:=e') (lo:=0) (hi:=0) rfl (a4 _) news 0 h (pre++(cs++ZG)).toArray h3 ?_ XV ?_
    .simp;rw[h4,<-h5];omega
    .simp only[ZN,bz];refine H _ o _ (.inr ⟨b,j,cap,pre,ZG.drop news.length,h1,rfl,?_,h4,?_,?_,Qg⟩) ((Kp.refl d (fun u=>u=t)).set h1 rfl _) (fun _ _=>rfl)
     .rw[aw,if_pos rfl,if_pos (Za h3)];rw[AW (by rw[h4,h5]) Rv]
     .rw[aI,h5,VJ,Nat.add_mul]
     .rw[bA,h6,VJ,<-Nat.sub_mul];congr 1;omega
  .rw[if_neg Qg];have W0:¬Builtin.nextslicecap (m+k) cap*i0.bytes>2 ^ 48:=by
    rw[NH];have:=Tc (m+k) cap bytes nc Y7;omega
   have fU:¬i0.bytes=0:=by rw[NH];omega
   simp only[Zm,XZ Pg,fU,or_false,and_false,if_false,if_neg W0];intro q;obtain⟨c,hc⟩:=ZQ (Question.cut (Question.appendCap (m+k) cap e') q);have vB:m+k<=c:=by rw[hc];simp only[Question.cut];omega
   rw[<-hc];have SK:∀{Q:Unit->Hp->Prop} (b:Nat) (g:Hp),Q () g->hw P (askRoom b) Q g:=fun {Q} b g q=>by
    unfold askRoom;split<;>exact q
   refine SK _ _ (YA Zq.sl (YA src ?_));rw[ov];have vC:z0.cells.size=n:=by rw[<-fR,<-fS];simp
   refine H (.slice (A ⟨h.size,0,U⟩) (m+k) c) (QS o h.size t) _ (.inr ⟨h.size,0,c,[],(au z0.cells (c-(m+k))).toList,XT,rfl,?_,rfl,?_,?_,vB⟩) (((Kp.refl d _).push _).PI (a4 _) Hg rfl) (fun b hb=>XX nc)
   .rw[Array.getElem?_push_size];simp
   .rw[aI,Zq.length,VJ,Nat.add_mul]
   .rw[bg,Xn,vC]
 .cases VI
theorem Gt{sT xT E' k off cap:Nat}{s:G}{pre ZG news zs:List G}{cb:Array Bool}(VI:QR P sT=A E)(Co:P.underlying xT=A (.slice E'))(hn:tn P E=A n)(hz:tz P E=A zs)(hb:h[b]? = A (a7 (pre++(cs++ZG)).toArray E (0,0)))(ho:off=(J pre))(hl:(J cs)=m*n)(src:Sl n h s k news)(XV:news.all YC=true)(Qg:m+k<=cap)(Y7:k*n<=(J ZG))(H:K (O (A ⟨b,off,U⟩) (m+k) cap) (h.setIfInBounds b (a7 (pre++((cs++news)++ZG.drop (k*n))).toArray E (0,0)))):Pm P T .append #[sT,xT] ty cb [O (A ⟨b,off,U⟩) m cap,s] K h:=by
 unfold QR at VI;split at VI
 .rename_i e' hu;simp only[Option.some.injEq]at VI;subst VI;show hw P (do pure (.value (<-a2 #[sT,xT] ty #[O (A ⟨b,off,U⟩) m cap,s]))) (Jt P T K) h;rw[Zm];show hw P (a2 #[sT,xT] ty #[O (A ⟨b,off,U⟩) m cap,s]) K h;obtain⟨i0,Pg⟩:∃i,P.info? e'=A i:=by
   unfold tn at hn
   cases hi:P.info? e' with
   | none=>rw[hi]at hn;cases hn
   | some i=>exact⟨i,rfl⟩
  obtain⟨z0,BV,fS⟩:∃z,i0.zero=A z/\z.cells.toList=zs:=by
   unfold tz at hz;rw[Pg]at hz
   cases Hv:i0.zero with
   | none=>rw[a1,Hv]at hz;cases hz
   | some z=>rw[a1,Hv]at hz;exact⟨z,rfl,by simpa using hz⟩
  have VJ:(J news)=k*n:=by obtain⟨_,_,_,hl,_⟩:=src;exact hl
  simp only[a2,aU,bd,a5,Zm,ZN,ZH hu,ZH Co,run_sizeOf hn,bo,if_false,src.lenOf,bC,if_true];rw[if_pos Qg,Zm];refine YA src ?_;simp only[Zm,XJ];refine YV (e:=e') (lo:=0) (hi:=0) rfl (a4 _) news 0 h (pre++(cs++ZG)).toArray hb ?_ XV ?_
  .simp;rw[ho,hl.symm];omega
  .simp only[ZN,bz];have e:Y9 (pre++(cs++ZG)) (off+m*n) news=pre++((cs++news)++ZG.drop (k*n)):=by
    rw[AW (by rw[ho,hl]) nc,VJ]
   rw[e];exact H
 .cases VI
theorem Ka{sT:L}{zs:List G}{cb:Array Bool}{off k c:Nat}{pre LU post:List G}(VI:QR P sT=A E)(hz:tz P E=A zs)(fR:(J zs)=n)(CL:zs.all YC=true)(hb:h[b]? = A (a7 (pre++(LU++post)).toArray E (0,0)))(ho:off=(J pre))(hl:(J LU)=k*n)(H:∀new:List G,(J new)=(J LU)->K (.tuple #[]) (h.setIfInBounds b (a7 (pre++(new++post)).toArray E (0,0)))):Pm P T .clear #[sT] ty cb [O (A ⟨b,off,U⟩) k c] K h:=by
 unfold QR at VI;split at VI
 .rename_i e' hu;simp only[Option.some.injEq]at VI;subst VI;show hw P (do pure (.value (<-bG #[sT] ty #[O (A ⟨b,off,U⟩) k c]))) (Jt P T K) h;rw[Zm];show hw P (bG #[sT] ty #[O (A ⟨b,off,U⟩) k c]) K h;have same:h.setIfInBounds b (a7 (pre++(LU++post)).toArray e' (0,0))=h:=by
   apply bl;intro j;rw[aw];by_cases hj:b=j
   .subst hj;rw[if_pos rfl,if_pos (Za hb),hb]
   .rw[if_neg hj]
  show hw P (do
   match <-underlying sT,(Value.slice (A ⟨b,off,U⟩) k c) with
   | _,.map U|_,O U _ _|_,O _ 0 _=>pure ()
   | _,.map (A r)=>
    let .map _ clock <-getObj r|stuck "clear: map expected"
    setObj r (.map #[] clock)
   | .slice elem,O (A a) n _=>
    storeCells a (au (<-zeroValue elem).cells n).toList
   | _,_=>stuck "clear: map or slice expected"
   pure (.tuple #[])) K h
  rw[Zm,ZH hu]
  cases k with
  | zero=>
   have h0:LU=[]:=a9 (by rw[hl];simp);subst h0;have:=H [] rfl;rw[same]at this;exact this
  | succ k=>
   obtain⟨i0,Pg⟩:∃i,P.info? e'=A i:=by
    unfold tz at hz
    cases hi:P.info? e' with
    | none=>rw[hi]at hz;cases hz
    | some i=>exact⟨i,rfl⟩
   obtain⟨z0,BV,fS⟩:∃z,i0.zero=A z/\z.cells.toList=zs:=by
    unfold tz at hz;rw[Pg]at hz
    cases Hv:i0.zero with
    | none=>rw[a1,Hv]at hz;cases hz
    | some z=>rw[a1,Hv]at hz;exact⟨z,rfl,by simpa using hz⟩
   have ov:∀{Q:G->Hp->Prop} (g:Hp),hw P (zeroValue e') Q g=Q z0 g:=fun {Q} g=>by
    unfold zeroValue;rw[Zm,XZ Pg];simp only[BV];rfl
   simp only[Zm];rw[ov];have vC:z0.cells.size=n:=by rw[<-fR,<-fS];simp
   have dW:(au z0.cells (k+1)).toList.length=(J LU):=by rw[bg,Xn,vC,hl]
   refine YV (a:=⟨b,off,U⟩) (e:=e') (lo:=0) (hi:=0) rfl (a4 _) _ 0 h (pre++(LU++post)).toArray hb ?_ ?_ ?_
   .simp only[bx,aI,dW];omega
   .rw[bb];intro x hx;have hx:x∈au z0.cells (k+1):=by simpa using hx
    have NV:x∈zs:=by
     rw[<-fS];unfold au at hx;rw[Array.mem_map]at hx;obtain⟨i,hi,rfl⟩:=hx;rw[Array.mem_range]at hi;have H5:0<z0.cells.size:=by
      rcases Nat.eq_zero_or_pos z0.cells.size with q|q
      .rw[q,Nat.mul_zero]at hi;omega
      .exact q
     have ZU:i%z0.cells.size<z0.cells.size:=Nat.mod_lt _ H5;rw[getElem!_pos z0.cells _ ZU];simp
    exact bb.1 CL x NV
   .simp only[bz];have e1:Y9 (pre++(LU++post)).toArray.toList off (au z0.cells (k+1)).toList=pre++((au z0.cells (k+1)).toList++post):=TY ho dW;rw[e1];exact H _ dW
 .cases VI
end
section
variable {P:aa} {T:a6} {K:G->Hp->Prop} {F:Env} {h:Hp} {ty:L}
end
section
variable {P:aa} {T:a6} {K:G->Hp->Prop} {F:Env} {h:Hp} {ty:L}
end
end Go.V
