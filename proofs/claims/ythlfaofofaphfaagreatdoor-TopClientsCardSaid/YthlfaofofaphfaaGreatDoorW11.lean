/- Part W11. -/
import Derived.Test.YthlfaofofaphfaaGreatDoorW8
open List renaming any_eq_true→aU
open Nat renaming eq_of_beq_eq_true→Y,beq→a3
open Option renaming some→A,none→Z
open Array renaming getD_eq_getD_getElem?→D,getElem?_eq_none→J,getElem?_setIfInBounds→aa,replicate→a2
open Bool renaming and_eq_true→u,not_true→au,false_or→aw,not_eq_true'→aI
open Go.Region renaming ready→m,binds→U,noSelect_spec→am,free_spec→a0,noSelect→a1,free→a4
open Go renaming Program→G,Value→O,World→Q,TypeId→al
namespace Go.V
set_option linter.unusedVariables false
set_option linter.unusedSimpArgs false
variable{ops:Array Oper}
inductive Tr where
 | nil
 | q (i:Nat) (t:Tr)
 | s (i:Nat) (t:Tr)
 | or (i:Nat) (t:Tr) (r:Tr)
def Tr.alts:Tr->List Nat
 | .s i _=>[i]
 | .or i _ r=>i :: r.alts
 | _=>[]
def Tr.ok(ops:Array Oper):Tr->Nat->Array Bool->Bool->Bool
 | .nil,n,listed,_=>a3 n 0&&(m .any ops listed).isEmpty
 | .q _ _,0,_,_=>false
 | .q i t,n+1,listed,_=>((m .any ops listed).contains i&&a4 .any ops listed i)&&t.ok ops n (listed.setIfInBounds i true) true
 | .s _ _,0,_,_=>false
 | .s i t,n+1,listed,b=>(!b||(m .any ops listed == [i]))&&t.ok ops n (listed.setIfInBounds i true) true
 | .or _ _ _,0,_,_=>false
 | .or i t r,n+1,listed,b=>(!b||(m .any ops listed == i :: r.alts))&&(t.ok ops n (listed.setIfInBounds i true) true&&r.ok ops (n+1) listed false)
section
variable {P:G} {n:Nat} {T:Q} {N:Env->Hp->Prop} {X:Nat->Env->Hp->Prop} {R:Env->Hp->Prop} {F:Env} {h:Hp}
def tE(P:G)(T:Q)(ops:List Oper)(B:Nat)(h0:Hp)(N:Env->Hp->Prop):Tr->Env->Hp->Prop
 | .nil,F,h=>N F h
 | .q i t,F,h=>match nth ops i with
  | some ⟨d,op,ty,_,_,Z⟩=>SF P T B h0 op ty (fun v=>tE P T ops B h0 N t (Yz F d v) h) F
  | some ⟨d,op,ty,_,_,A (j,b)⟩=>JF (Wo ops F j) b (SF P T B h0 op ty (fun v=>tE P T ops B h0 N t (Yz F d v) h) F) (tE P T ops B h0 N t (Yz F d undef) h)
  | none=>False
 | .s i t,F,h=>match nth ops i with
  | some ⟨d,op,ty,_,_,Z⟩=>TQ P T op ty (fun v h'=>Zk B h0 h'/\tE P T ops B h0 N t (Yz F d v) h') F h
  | some ⟨d,op,ty,_,_,A (j,b)⟩=>JF (Wo ops F j) b (TQ P T op ty (fun v h'=>Zk B h0 h'/\tE P T ops B h0 N t (Yz F d v) h') F h) (Zk B h0 h/\tE P T ops B h0 N t (Yz F d undef) h)
  | none=>False
 | .or i t r,F,h=>(match nth ops i with
  | some ⟨d,op,ty,_,_,Z⟩=>TQ P T op ty (fun v h'=>Zk B h0 h'/\tE P T ops B h0 N t (Yz F d v) h') F h
  | some ⟨d,op,ty,_,_,A (j,b)⟩=>JF (Wo ops F j) b (TQ P T op ty (fun v h'=>Zk B h0 h'/\tE P T ops B h0 N t (Yz F d v) h') F h) (Zk B h0 h/\tE P T ops B h0 N t (Yz F d undef) h)
  | none=>False)/\tE P T ops B h0 N r F h
theorem Tf{ops:List Oper}{i:Nat}{o:Oper}(h:nth ops i=A o):ops.toArray[i]? = A o:=by
 rw[List.getElem?_toArray,<-YR];exact h
theorem gd{ops:List Oper}{B:Nat}{h0:Hp}{i:Nat}{K K':Env->Hp->Prop}(hk:∀F h,K F h->K' F h)(H:match nth ops i with
    | some ⟨d,op,ty,_,_,Z⟩=>TQ P T op ty (fun v h'=>Zk B h0 h'/\K (Yz F d v) h') F h
    | some ⟨d,op,ty,_,_,A (j,b)⟩=>JF (Wo ops F j) b (TQ P T op ty (fun v h'=>Zk B h0 h'/\K (Yz F d v) h') F h) (Zk B h0 h/\K (Yz F d undef) h)
    | none=>False):Uq P T ops.toArray i (fun F' h'=>Zk B h0 h'/\K' F' h') F h:=by
 unfold Uq
 cases ho:nth ops i with
 | none=>rw[ho]at H;exact H.elim
 | some o=>
  rw[Tf ho];rw[ho]at H;obtain⟨d,op,ty,pos,WY,g⟩:=o
  cases g with
  | none=>
   show (if YI ops.toArray _ F=true then _ else _);rw[if_pos (by rfl)];exact Us (fun v h' q=>⟨q.1,hk _ _ q.2⟩) H
  | some jb=>
   obtain⟨j,b⟩:=jb;show (if YI ops.toArray _ F=true then _ else _);rcases XI ops F d op pos WY j b H with⟨hw,H⟩|⟨hw,H⟩
   .rw[if_pos hw];exact Us (fun v h' q=>⟨q.1,hk _ _ q.2⟩) H
   .rw[hw,if_neg Hg];exact⟨H.1,hk _ _ H.2⟩
def tKs(P:G)(T:Q)(ops:List Oper)(B:Nat)(h0:Hp)(N:Env->Hp->Prop)(t:Tr)(F:Env)(d:Option Tmp):O->Hp->Prop:=fun v h'=>Zk B h0 h'/\tE P T ops B h0 N t (Yz F d v) h'
def tS(P:G)(T:Q)(ops:List Oper)(B:Nat)(h0:Hp)(N:Env->Hp->Prop)(t:Tr)(F:Env)(h:Hp)(o:Option Oper):Prop:=
 match o with
 | some ⟨d,op,ty,_,_,Z⟩=>TQ P T op ty (tKs P T ops B h0 N t F d) F h
 | some ⟨d,op,ty,_,_,A (j,b)⟩=>JF (Wo ops F j) b (TQ P T op ty (tKs P T ops B h0 N t F d) F h) (Zk B h0 h/\tE P T ops B h0 N t (Yz F d undef) h)
 | none=>False
variable {ops:List Oper} {B:Nat} {h0:Hp} {t r:Tr} {i j:Nat} {d:Option Tmp} {op:Op} {ty:al} {pos:String} {WY:Array Edge} {b c:Bool} {v:O}
end
section
variable {B:Nat} {h h':Hp} {o:Obj} {b:Nat}
@[go_sem] theorem Zif:Zk B h h=True:=eq_true (Zk.refl _ _)
@[go_sem] theorem Zjo(a:Zk h.size h h'):Zk h.size h (h'.push o)=True:=eq_true (a.add _)
@[go_sem] theorem Zjp(a:Zk B h h')(hb:B<=b):Zk B h (h'.setIfInBounds b o)=True:=eq_true (a.Zt hb _)
attribute [go_sem] Nat.le_add_right Nat.le_refl List.cons_append List.nil_append
@[go_sem] theorem Zjq(z:List O):Qf 1 z=z:=by simp[Qf]
@[go_sem] theorem Zjr(z:List O):Qf 2 z=z++z:=by simp[Qf]
end
theorem Qv.Zjs{α:Type}{enc:α->List O}{n B:Nat}{E:al}{h:Hp}{v:O}{l:List α}(Va:∀x,(enc x).length=n)(hn:n≠0)(s:Qv B E enc n h v l):
  ∃p cap,v=.slice p (List.length l) cap/\(l≠[]->∃b o,p=A ⟨b,o,Z⟩/\B<=b/\b<h.size/\∀i (hi:i<(List.length l)),JP h b (o+i*n) (enc l[i])):=by
 obtain⟨p,cap,hv,XE⟩:=s.ts.open Va hn;refine⟨p,cap,hv,fun Y4=>?_⟩;obtain⟨b,o,hp,hb,hc⟩:=XE Y4;refine⟨b,o,hp,?_,hb,hc⟩;rcases s.Zq with⟨_,h0,_⟩|⟨b',Gg,ZG,hB,AG,_⟩
 .exact absurd (List.eq_nil_of_length_eq_zero h0) Y4
 .rw[hv,hp]at AG;simp only[Value.slice.injEq,Option.some.injEq,Addr.mk.injEq]at AG;obtain⟨⟨rfl,_⟩,_⟩:=AG;exact hB
theorem Qv.one{α:Type}{enc:α->List O}{n B:Nat}{E:al}{h:Hp}(x:α)(Va:∀x,(enc x).length=n)(hB:B<=h.size):Qv B E enc n (h.push (.cells (enc x).toArray E)) (.slice (A ⟨h.size,0,Z⟩) 1 1) [x]:=by
 have:=Qv.made (h:=h) (E:=E) (B:=B) Va [x] hB
 simpa [ZT] using this
section
variable {P:G} {n:Nat} {T:Q} {N:Env->Hp->Prop} {X:Nat->Env->Hp->Prop} {R:Env->Hp->Prop} {F:Env} {h:Hp}
def MN(P:G)(T:Q)(ops:Array Oper)(S:Hp->Prop)(W:List Nat)(N:Env->Hp->Prop):Nat->Array Bool->Env->Hp->Prop
 | 0,listed,F,h=>m .any ops listed=[]/\N F h
 | k+1,listed,F,h=>(m .any ops listed=[]->N F h) /\
   ∀i∈m .any ops listed,Uq P T ops i (fun F' h'=>(i∈W\/S h')/\MN P T ops S W N k (listed.setIfInBounds i true) F' h') F h
theorem Er{S:Hp->Prop}{W:List Nat}:∀(k:Nat) (listed:Array Bool) (F:Env) (h:Hp),MN P T ops S W N k listed F h->eJ P T ops (fun _=>True) N k listed F h:=by
 intro k
 induction k with
 | zero=>intro listed F h H;exact H
 | succ k ih=>intro listed F h H;exact⟨H.1,fun i hi=>J9 (fun F' h' q=>⟨trivial,ih _ _ _ q.2⟩) (H.2 i hi)⟩
def QG(ops:Array Oper)(listed:Array Bool):Prop:=
 ∀(j:Nat) oj,ops[j]? = A oj->listed.getD j false=true->∀e∈oj.after,U .any e=true->listed.getD e.on false=true
theorem getD_set_true{l:Array Bool}{j k:Nat}(h:l.getD k false=true):(l.setIfInBounds j true).getD k false=true:=by
 rw[D]at h ⊢;rw[aa];by_cases kv:j=k
 .subst kv;rw[if_pos rfl];by_cases ZU:j<l.size
  .rw[if_pos ZU];rfl
  .rw[J nc]at h;cases h
 .rw[if_neg kv];exact h
theorem QG.set{listed:Array Bool}(c:QG ops listed){j:Nat}(hj:j∈m .any ops listed):QG ops (listed.setIfInBounds j true):=by
 intro k ok Uk hl e he hb;obtain⟨_,oj,nj,XY⟩:=mem_ready.1 hj;by_cases kv:j=k
 .subst kv;rw[nj]at Uk;obtain rfl:=Option.some.inj Uk;exact getD_set_true (XY e he hb)
 .refine getD_set_true (c k ok Uk ?_ e he hb);rw[D,aa,if_neg kv]at hl;rw[D];exact hl
def kL:Nat:=16
def ons(ops:Array Oper)(k:Nat):List Nat:=match ops[k]? with|some o=>(o.after.toList.filter fun e=>U .any e).map fun e=>e.on|none=>[]
def Cy(ops:Array Oper):Nat->List Nat->List Nat
 | 0,M=>M
 | k+1,M=>Cy ops k (if M.any (a3 k)=true then ons ops k++M else M)
def Vb(ops:Array Oper)(f j i:Nat):Bool:=(Cy ops j (ons ops j)).any (a3 i)
theorem Gl{k:Nat}{L:Nat->Prop}(h:∀o,ops[k]? = A o->∀e∈o.after,U .any e=true->L e.on):∀x∈ons ops k,L x:=by
 intro x hx;unfold ons at hx
 cases ho:ops[k]? with
 | none=>rw[ho]at hx;cases hx
 | some o=>
  rw[ho]at hx;simp only[List.mem_map,List.mem_filter]at hx;obtain⟨e,⟨he,hb⟩,rfl⟩:=hx;exact h o ho e (by simpa using he) hb
theorem Gm{listed:Array Bool}(c:QG ops listed):∀(k:Nat) (M:List Nat),(∀x∈M,listed.getD x false=true)->∀x∈Cy ops k M,listed.getD x false=true:=by
 intro k
 induction k with
 | zero=>intro M hM;exact hM
 | succ k ih=>
  intro M hM;refine ih _ ?_;split
  .rename_i hk;obtain⟨y,hy,he⟩:=aU.1 hk;obtain rfl:=Y he;intro x hx;rcases List.mem_append.1 hx with hx|hx
   .exact Gl (L:=fun x=>listed.getD x false=true) (fun o ho e he hb=>c _ o ho (hM _ hy) e he hb) x hx
   .exact hM x hx
  .exact hM
theorem KZ{listed:Array Bool}(c:QG ops listed){i f j:Nat}(h:Vb ops f j i=true)(hj:j∈m .any ops listed):listed.getD i false=true:=by
 obtain⟨_,o,ho,XY⟩:=mem_ready.1 hj;unfold Vb at h;obtain⟨y,hy,he⟩:=aU.1 h;obtain rfl:=Y he;refine Gm c _ _ (Gl (L:=fun x=>listed.getD x false=true) fun o' NM e he hb=>?_) _ hy;rw[ho]at NM;obtain rfl:=Option.some.inj NM;exact XY e he hb
theorem Ia{S:Hp->Prop}{W:List Nat}{i:Nat}{oi:Oper}{v:O}(hi:ops[i]? = A oi)(Af:∀(j:Nat) (o:Oper) cs b,ops[j]? = A o->o.op ≠ .select cs b)(hW:∀j∈W,∃f,Vb ops f j i=true):
  ∀(k:Nat) (listed:Array Bool) (F:Env) (h:Hp),QG ops listed ->
   (∀j oj,ops[j]? = A oj->j≠i->listed.getD j true=false->(∀e∈oj.after,U .any e=true->e.on≠i)->oi.apart ops oj=true) ->
   i∈m .any ops listed->U0 P T ops S oi v F->S h ->
   MN P T ops S W N k (listed.setIfInBounds i true) (Yz F oi.dst v) h->MN P T ops S W N (k+1) listed F h:=by
 intro k
 induction k with
 | zero=>
  intro listed F h _ _ hr hy hS H;refine⟨fun h=>(by rw[h]at hr;cases hr),fun j hj=>?_⟩;by_cases TO:j=i
  .subst TO;exact hy.opI hi hS ⟨.inr hS,H⟩
  .have:=ready_mono hj TO;rw[H.1]at this
   cases this
 | succ k ih=>
  intro listed F h JZ KW hr hy hS H;refine⟨fun h=>(by rw[h]at hr;cases hr),fun j hj=>?_⟩;by_cases TO:j=i
  .subst TO;exact hy.opI hi hS ⟨.inr hS,H⟩
  .have h1:=H.2 j (ready_mono hj TO);obtain⟨Ag,oj,nj,XY⟩:=mem_ready.1 hj;have Ce:∀e∈oj.after,U .any e=true->e.on≠i:=fun e he hb heq=>by
    have h1:=XY e he hb;have h0:=(mem_ready.1 hr).1;rw[heq]at h1;rcases Nat.lt_or_ge i listed.size with h'|h'
    .simp[h']at h0 h1;rw[h0]at h1;cases h1
    .simp[J h']at h1
   have hjW:j ∉ W:=fun hjw=>by
    obtain⟨f,hf⟩:=hW j hjw;have h1:=KZ JZ hf hj;have h0:=(mem_ready.1 hr).1;rcases Nat.lt_or_ge i listed.size with h'|h'
    .simp[h']at h0 h1;rw[h0]at h1;cases h1
    .simp[J h']at h1
   have h2:=HS nj (KW j oj nj TO Ag Ce) (fun cs b=>Af i oi cs b hi) (fun cs b=>Af j oj cs b nj) hy h1;have HU:∀k ok,ops[k]? = A ok->k≠i->(listed.setIfInBounds j true).getD k true=false ->
     (∀e∈ok.after,U .any e=true->e.on≠i)->oi.apart ops ok=true:=fun k ok hk hki hun ku=>by
    refine KW k ok hk hki ?_ ku;by_cases kv:j=k
    .subst kv;exact Ag
    .rw[getD_set_ne true kv]at hun;exact hun
   refine J9 (fun F' h' h3=>?_) h2;have hS':S h':=h3.2.1.resolve_left hjW;refine⟨.inr hS',ih (listed.setIfInBounds j true) F' h' (JZ.set hj) HU (ready_mono hr (Ne.symm TO)) h3.1 hS' ?_⟩;rw[Array.setIfInBounds_comm _ _ TO];exact h3.2.2
inductive O3 where
 | nil
 | q (i:Nat) (t:O3)
 | s (i:Nat) (t:O3)
 | w (i:Nat) (t:O3)
 | or (i:Nat) (t:O3) (r:O3)
def O3.alts:O3->List Nat
 | .s i _=>[i]
 | .w i _=>[i]
 | .or i _ r=>i :: r.alts
 | _=>[]
def O3.MO:O3->Bool
 | .q _ _=>true
 | .s _ t=>t.MO
 | .or _ t r=>t.MO||r.MO
 | _=>false
def O3.ok(ops:Array Oper)(W:List Nat):O3->Nat->Array Bool->Bool->Bool
 | .nil,n,listed,_=>a3 n 0&&(m .any ops listed).isEmpty
 | .q _ _,0,_,_=>false
 | .q i t,n+1,listed,_=>((m .any ops listed).contains i&&(a4 .any ops listed i&&W.all fun j=>Vb ops kL j i))&&t.ok ops W n (listed.setIfInBounds i true) true
 | .s _ _,0,_,_=>false
 | .s i t,n+1,listed,b=>(!b||(m .any ops listed == [i]))&&t.ok ops W n (listed.setIfInBounds i true) true
 | .w _ _,0,_,_=>false
 | .w i t,n+1,listed,b=>((!b||(m .any ops listed == [i]))&&(W.contains i&&!t.MO))&&t.ok ops W n (listed.setIfInBounds i true) true
 | .or _ _ _,0,_,_=>false
 | .or i t r,n+1,listed,b=>(!b||(m .any ops listed == i :: r.alts))&&(t.ok ops W n (listed.setIfInBounds i true) true&&r.ok ops W (n+1) listed false)
def kM(P:G)(T:Q)(ops:Array Oper)(S:Hp->Prop)(N:Env->Hp->Prop):O3->Env->Hp->Prop
 | .nil,F,h=>N F h
 | .q i t,F,h=>match ops[i]? with
  | some o=>if YI ops o F then ∃v,(∀h',S h'->Ee P T o (fun v' LW=>v'=v/\LW=h') F h')/\kM P T ops S N t (Yz F o.dst v) h else kM P T ops S N t (Yz F o.dst undef) h
  | none=>False
 | .s i t,F,h=>Uq P T ops i (fun F' h'=>S h'/\kM P T ops S N t F' h') F h
 | .w i t,F,h=>Uq P T ops i (fun F' h'=>kM P T ops S N t F' h') F h
 | .or i t r,F,h=>Uq P T ops i (fun F' h'=>S h'/\kM P T ops S N t F' h') F h/\kM P T ops S N r F h
theorem Cz{S:Hp->Prop}{W:List Nat}(hs:a1 ops=true):∀(t:O3),
  (∀(k:Nat) (listed:Array Bool) (F:Env) (h:Hp),QG ops listed->t.ok ops W k listed true=true->(t.MO=true->S h)->kM P T ops S N t F h->MN P T ops S W N k listed F h) /\
  (∀(k:Nat) (listed:Array Bool) (F:Env) (h:Hp),QG ops listed->t.ok ops W (k+1) listed false=true->kM P T ops S N t F h->∀j∈t.alts,j∈m .any ops listed->Uq P T ops j (fun F' h'=>(j∈W\/S h')/\MN P T ops S W N k (listed.setIfInBounds j true) F' h') F h):=by
 intro t
 induction t with
 | nil=>
  refine⟨fun k listed F h JZ hB hS H=>?_,fun k listed F h _ _ _ j hj=>by cases hj⟩;simp only[O3.ok,u,List.isEmpty_iff]at hB;obtain⟨h1,h2⟩:=hB;obtain rfl:=Y h1;exact⟨h2,H⟩
 | q i t ih=>
  refine⟨fun k listed F h JZ hB hS H=>?_,fun k listed F h _ _ _ j hj=>by cases hj⟩;have hS:=hS rfl
  cases k with
  | zero=>simp[O3.ok]at hB
  | succ k=>
   simp only[O3.ok,u]at hB;obtain⟨⟨h1,h2,hw⟩,h3⟩:=hB;have Nz:i∈m .any ops listed:=by simpa using h1
   obtain⟨_,o,ho,_⟩:=mem_ready.1 Nz;have hW:∀j∈W,∃f,Vb ops f j i=true:=fun j hj=>⟨kL,List.all_eq_true.1 hw j hj⟩
   simp only[kM,ho]at H;split at H
   .rename_i HQ;obtain⟨v,hv,H⟩:=H;exact Ia ho (am hs) hW k listed F h JZ (a0 ho h2) Nz (.inl ⟨HQ,hv⟩) hS (ih.1 k _ _ _ (JZ.set Nz) h3 (fun _=>hS) H)
   .rename_i HQ;exact Ia ho (am hs) hW k listed F h JZ (a0 ho h2) Nz (.inr ⟨by simpa using HQ,rfl⟩) hS (ih.1 k _ _ _ (JZ.set Nz) h3 (fun _=>hS) H)
 | s i t ih=>
  have second:∀(k:Nat) (listed:Array Bool) (F:Env) (h:Hp),QG ops listed->i∈m .any ops listed->t.ok ops W k (listed.setIfInBounds i true) true=true->kM P T ops S N (.s i t) F h->Uq P T ops i (fun F' h'=>(i∈W\/S h')/\MN P T ops S W N k (listed.setIfInBounds i true) F' h') F h:=by
   intro k listed F h JZ Nz hB H;exact J9 (fun F' h' q=>⟨.inr q.1,ih.1 k _ _ _ (JZ.set Nz) hB (fun _=>q.1) q.2⟩) H
  refine⟨fun k listed F h JZ hB hS H=>?_,fun k listed F h JZ hB H j hj hr=>?_⟩
  .cases k with
   | zero=>simp[O3.ok]at hB
   | succ k=>
    simp only[O3.ok,u,au,aw,beq_iff_eq]at hB;refine⟨fun h0=>(by rw[hB.1]at h0;cases h0),fun j hj=>?_⟩;have hr:=hj;rw[hB.1]at hj;have hj:j=i:=by simpa using hj
    subst hj;exact second k listed F h JZ hr hB.2 H
  .simp only[O3.ok,u]at hB;have hj:j=i:=by simpa [O3.alts] using hj
   subst hj;exact second k listed F h JZ hr hB.2 H
 | w i t ih=>
  have second:∀(k:Nat) (listed:Array Bool) (F:Env) (h:Hp),QG ops listed->i∈m .any ops listed->i∈W->t.MO=false->t.ok ops W k (listed.setIfInBounds i true) true=true->kM P T ops S N (.w i t) F h->Uq P T ops i (fun F' h'=>(i∈W\/S h')/\MN P T ops S W N k (listed.setIfInBounds i true) F' h') F h:=by
   intro k listed F h JZ Nz hw hq hB H;exact J9 (fun F' h' q=>⟨.inl hw,ih.1 k _ _ _ (JZ.set Nz) hB (fun e=>by rw[hq]at e;cases e) q⟩) H
  refine⟨fun k listed F h JZ hB hS H=>?_,fun k listed F h JZ hB H j hj hr=>?_⟩
  .cases k with
   | zero=>simp[O3.ok]at hB
   | succ k=>
    simp only[O3.ok,u,au,aw,beq_iff_eq,aI]at hB;obtain⟨⟨h1,h2,h3⟩,h4⟩:=hB;refine⟨fun h0=>(by rw[h1]at h0;cases h0),fun j hj=>?_⟩;have hr:=hj;rw[h1]at hj;have hj:j=i:=by simpa using hj
    subst hj;exact second k listed F h JZ hr (by simpa using h2) h3 h4 H
  .simp only[O3.ok,u,aI]at hB;obtain⟨⟨h1,h2,h3⟩,h4⟩:=hB;have hj:j=i:=by simpa [O3.alts] using hj
   subst hj;exact second k listed F h JZ hr (by simpa using h2) h3 h4 H
 | or i t r iht ihr=>
  have second:∀(k:Nat) (listed:Array Bool) (F:Env) (h:Hp),QG ops listed->t.ok ops W k (listed.setIfInBounds i true) true=true->r.ok ops W (k+1) listed false=true->kM P T ops S N (.or i t r) F h->∀j∈(O3.or i t r).alts,j∈m .any ops listed->Uq P T ops j (fun F' h'=>(j∈W\/S h')/\MN P T ops S W N k (listed.setIfInBounds j true) F' h') F h:=by
   intro k listed F h JZ hB hR H j hj hr;rcases List.mem_cons.1 hj with hj|hj
   .subst hj;exact J9 (fun F' h' q=>⟨.inr q.1,iht.1 k _ _ _ (JZ.set hr) hB (fun _=>q.1) q.2⟩) H.1
   .exact ihr.2 k listed F h JZ hR H.2 j hj hr
  refine⟨fun k listed F h JZ hB hS H=>?_,fun k listed F h JZ hB H j hj hr=>?_⟩
  .cases k with
   | zero=>simp[O3.ok]at hB
   | succ k=>
    simp only[O3.ok,u,au,aw,beq_iff_eq]at hB;refine⟨fun h0=>(by rw[hB.1]at h0;cases h0),fun j hj=>?_⟩;have hr:=hj;rw[hB.1]at hj;exact second k listed F h JZ hB.2.1 hB.2.2 H j hj hr
  .simp only[O3.ok,u]at hB;exact second k listed F h JZ hB.2.1 hB.2.2 H j hj hr
def wKs(B:Nat)(h0:Hp)(K:Env->Hp->Prop)(F:Env)(d:Option Tmp):O->Hp->Prop:=fun v h'=>Zk B h0 h'/\K (Yz F d v) h'
def wKw(K:Env->Hp->Prop)(F:Env)(d:Option Tmp):O->Hp->Prop:=fun v h'=>K (Yz F d v) h'
def wQg(P:G)(T:Q)(B:Nat)(h0:Hp)(K:Env->Hp->Prop)(F:Env)(h:Hp)(d:Option Tmp)(op:Op)(ty:al)(v:O)(b:Bool):Prop:=JF v b (SF P T B h0 op ty (fun v=>K (Yz F d v) h) F) (K (Yz F d undef) h)
def wQ(P:G)(T:Q)(ops:List Oper)(B:Nat)(h0:Hp)(K:Env->Hp->Prop)(F:Env)(h:Hp)(o:Option Oper):Prop:=
 match o with
 | some ⟨d,op,ty,_,_,Z⟩=>SF P T B h0 op ty (fun v=>K (Yz F d v) h) F
 | some ⟨d,op,ty,_,_,A (j,b)⟩=>wQg P T B h0 K F h d op ty (Wo ops F j) b
 | none=>False
def wSg(P:G)(T:Q)(B:Nat)(h0:Hp)(K:Env->Hp->Prop)(F:Env)(h:Hp)(d:Option Tmp)(op:Op)(ty:al)(v:O)(b:Bool):Prop:=JF v b (TQ P T op ty (wKs B h0 K F d) F h) (Zk B h0 h/\K (Yz F d undef) h)
def wS(P:G)(T:Q)(ops:List Oper)(B:Nat)(h0:Hp)(K:Env->Hp->Prop)(F:Env)(h:Hp)(o:Option Oper):Prop:=
 match o with
 | some ⟨d,op,ty,_,_,Z⟩=>TQ P T op ty (wKs B h0 K F d) F h
 | some ⟨d,op,ty,_,_,A (j,b)⟩=>wSg P T B h0 K F h d op ty (Wo ops F j) b
 | none=>False
def wWg(P:G)(T:Q)(K:Env->Hp->Prop)(F:Env)(h:Hp)(d:Option Tmp)(op:Op)(ty:al)(v:O)(b:Bool):Prop:=JF v b (TQ P T op ty (wKw K F d) F h) (K (Yz F d undef) h)
def wW(P:G)(T:Q)(ops:List Oper)(K:Env->Hp->Prop)(F:Env)(h:Hp)(o:Option Oper):Prop:=
 match o with
 | some ⟨d,op,ty,_,_,Z⟩=>TQ P T op ty (wKw K F d) F h
 | some ⟨d,op,ty,_,_,A (j,b)⟩=>wWg P T K F h d op ty (Wo ops F j) b
 | none=>False
def BW(P:G)(T:Q)(ops:List Oper)(B:Nat)(h0:Hp)(N:Env->Hp->Prop):O3->Env->Hp->Prop
 | .nil,F,h=>N F h
 | .q i t,F,h=>wQ P T ops B h0 (BW P T ops B h0 N t) F h (nth ops i)
 | .s i t,F,h=>wS P T ops B h0 (BW P T ops B h0 N t) F h (nth ops i)
 | .w i t,F,h=>wW P T ops (BW P T ops B h0 N t) F h (nth ops i)
 | .or i t r,F,h=>wS P T ops B h0 (BW P T ops B h0 N t) F h (nth ops i)/\BW P T ops B h0 N r F h
theorem MP{ops:List Oper}{B:Nat}{h0:Hp}{i:Nat}{K K':Env->Hp->Prop}(hk:∀F h,K F h->K' F h)(H:wS P T ops B h0 K F h (nth ops i)):Uq P T ops.toArray i (fun F' h'=>Zk B h0 h'/\K' F' h') F h:=by
 refine gd (K:=K) hk ?_
 cases ho:nth ops i with
 | none=>rw[ho]at H;exact H.elim
 | some o=>
  rw[ho]at H;obtain⟨d,op,ty,pos,WY,g⟩:=o
  cases g with
  | none=>exact H
  | some jb=>exact H
theorem AL{ops:List Oper}{i:Nat}{K K':Env->Hp->Prop}(hk:∀F h,K F h->K' F h)(H:wW P T ops K F h (nth ops i)):Uq P T ops.toArray i K' F h:=by
 unfold Uq
 cases ho:nth ops i with
 | none=>rw[ho]at H;exact H.elim
 | some o=>
  rw[Tf ho];rw[ho]at H;obtain⟨d,op,ty,pos,WY,g⟩:=o
  cases g with
  | none=>
   show (if YI ops.toArray _ F=true then _ else _);rw[if_pos (by rfl)];exact Us (fun v h' q=>hk _ _ q) H
  | some jb=>
   obtain⟨j,b⟩:=jb;show (if YI ops.toArray _ F=true then _ else _);rcases XI ops F d op pos WY j b H with⟨hw,H⟩|⟨hw,H⟩
   .rw[if_pos hw];exact Us (fun v h' q=>hk _ _ q) H
   .rw[hw,if_neg Hg];exact hk _ _ H
theorem gg{ops:List Oper}{B:Nat}{h0:Hp}{N:Env->Hp->Prop}:∀(t:O3) (F:Env) (h:Hp),BW P T ops B h0 N t F h->kM P T ops.toArray (fun h'=>Zk B h0 h') N t F h:=by
 intro t
 induction t with
 | nil=>intro F h H;exact H
 | q i t ih=>
  intro F h H;simp only[BW]at H;simp only[kM]
  cases ho:nth ops i with
  | none=>rw[ho]at H;exact H.elim
  | some o=>
   rw[Tf ho];rw[ho]at H;obtain⟨d,op,ty,pos,WY,g⟩:=o
   cases g with
   | none=>
    show (if YI ops.toArray _ F=true then _ else _);rw[if_pos (by rfl)];obtain⟨v,hv,H⟩:=VY H;exact⟨v,fun h' hs=>QF (hv h' hs),ih _ _ H⟩
   | some jb=>
    obtain⟨j,b⟩:=jb;show (if YI ops.toArray _ F=true then _ else _);rcases XI ops F d op pos WY j b H with⟨hw,H⟩|⟨hw,H⟩
    .rw[if_pos hw];obtain⟨v,hv,H⟩:=VY H;exact⟨v,fun h' hs=>QF (hv h' hs),ih _ _ H⟩
    .rw[hw,if_neg Hg];exact ih _ _ H
 | s i t ih=>intro F h H;exact MP ih H
 | w i t ih=>intro F h H;exact AL ih H
 | or i t r iht ihr=>intro F h H;exact⟨MP iht H.1,ihr _ _ H.2⟩
theorem Ib(ops:Array Oper)(n:Nat):QG ops (a2 n false):=by
 intro j oj _ hl;rw[D]at hl;by_cases hj:j<n
 .simp[hj]at hl
 .rw[J KQ]at hl;cases hl
def Zjv(n:Nat)(ops:Array Oper)(W:List Nat)(t:O3):Bool:=KT n ops&&(a1 ops&&t.ok ops W ops.size (a2 ops.size false) true)
theorem VS.w{id:Nat}{ops:List Oper}(B:Nat)(W:List Nat)(t:O3)(hm:P.follows .mixedOrders=true)(Uk:Zjv n ops.toArray W t=true)(H:BW P T ops B h N t F h):VS P n T (.region id ops.toArray true) N X R F h:=by
 intro a w h1 h2 h3 h4;simp only[Zjv,u]at Uk;obtain⟨k1,k2,k3⟩:=Uk;refine wp_region_any hm ?_;refine QE k1 _ _ F h (Er _ _ _ _ ((Cz (S:=fun h'=>Zk B h h') k2 t).1 _ _ F h (Ib _ _) k3 (fun _=>Zk.refl _ _) (gg t F h H))) a _ h1 h2 h3 ⟨h4.heap,h4.tape,h4.os,h4.output⟩
variable {ops:List Oper} {B:Nat} {h0:Hp} {t r:O3} {i j:Nat} {d:Option Tmp} {op:Op} {ty:al} {pos:String} {WY:Array Edge} {b c:Bool} {v:O} {K:Env->Hp->Prop}
def wKq(K:Env->Hp->Prop)(F:Env)(d:Option Tmp)(h:Hp):O->Prop:=fun v=>K (Yz F d v) h
@[go_sem] theorem Zm6:BW P T ops B h0 N .nil F h=N F h:=rfl
@[go_sem] theorem Zwo:BW P T ops B h0 N (.q i t) F h=wQ P T ops B h0 (BW P T ops B h0 N t) F h (nth ops i):=rfl
@[go_sem] theorem Zwp:BW P T ops B h0 N (.s i t) F h=wS P T ops B h0 (BW P T ops B h0 N t) F h (nth ops i):=rfl
@[go_sem] theorem Zwq:BW P T ops B h0 N (.w i t) F h=wW P T ops (BW P T ops B h0 N t) F h (nth ops i):=rfl
@[go_sem] theorem Zqi:BW P T ops B h0 N (.or i t r) F h=(wS P T ops B h0 (BW P T ops B h0 N t) F h (nth ops i)/\BW P T ops B h0 N r F h):=rfl
@[go_sem] theorem Zjx:wQ P T ops B h0 K F h (A ⟨d,op,ty,pos,WY,Z⟩)=SF P T B h0 op ty (wKq K F d h) F:=rfl
@[go_sem] theorem Zjy:wQ P T ops B h0 K F h (A ⟨d,op,ty,pos,WY,A (j,b)⟩)=wQg P T B h0 K F h d op ty (Wo ops F j) b:=rfl
@[go_sem] theorem Zjz:wS P T ops B h0 K F h (A ⟨d,op,ty,pos,WY,Z⟩)=TQ P T op ty (wKs B h0 K F d) F h:=rfl
@[go_sem] theorem ZjA:wS P T ops B h0 K F h (A ⟨d,op,ty,pos,WY,A (j,b)⟩)=wSg P T B h0 K F h d op ty (Wo ops F j) b:=rfl
@[go_sem] theorem ZjB:wW P T ops K F h (A ⟨d,op,ty,pos,WY,Z⟩)=TQ P T op ty (wKw K F d) F h:=rfl
@[go_sem] theorem ZjC:wW P T ops K F h (A ⟨d,op,ty,pos,WY,A (j,b)⟩)=wWg P T K F h d op ty (Wo ops F j) b:=rfl
@[go_sem] theorem ZjD:wQg P T B h0 K F h d op ty (.bool c) b=if c=b then SF P T B h0 op ty (wKq K F d h) F else K (Yz F d undef) h:=rfl
@[go_sem] theorem ZjE:wSg P T B h0 K F h d op ty (.bool c) b=if c=b then TQ P T op ty (wKs B h0 K F d) F h else (Zk B h0 h/\K (Yz F d undef) h):=rfl
@[go_sem] theorem ZjF:wWg P T K F h d op ty (.bool c) b=if c=b then TQ P T op ty (wKw K F d) F h else K (Yz F d undef) h:=rfl
@[go_sem] theorem Zm7:wKq K F d h v=K (Yz F d v) h:=rfl
@[go_sem] theorem Zm8:wKs B h0 K F d v h=(Zk B h0 h/\K (Yz F d v) h):=rfl
@[go_sem] theorem Zm9:wKw K F d v h=K (Yz F d v) h:=rfl
end
end Go.V
