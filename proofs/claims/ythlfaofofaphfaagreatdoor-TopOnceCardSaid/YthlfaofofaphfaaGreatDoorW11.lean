/- Part W11. -/
import Derived.Test.YthlfaofofaphfaaGreatDoorW8
open List renaming any_eq_true→aw
open Nat renaming eq_of_beq_eq_true→Y,beq→a1
open Option renaming some→A,none→Z
open Array renaming getD_eq_getD_getElem?→D,getElem?_eq_none→J,getElem?_setIfInBounds→aa,replicate→a0
open Bool renaming and_eq_true→u,not_true→ag,false_or→al,not_eq_true'→am
open Go.Region renaming ready→m,binds→U,noSelect_spec→ae,free_spec→aN,noSelect→aO,free→a2
open Go renaming Program→G,Value→O,World→Q,TypeId→ab
namespace Go.V
set_option linter.unusedVariables false
set_option linter.unusedSimpArgs false
variable{ops:Array Oper}
inductive Tr where
 | nil
 | q (i:Nat) (t:Tr)
 | s (i:Nat) (t:Tr)
 | or (i:Nat) (t:Tr) (r:Tr)
def Tr.alts:Tr->List Nat
 | .s i _=>[i]
 | .or i _ r=>i :: r.alts
 | _=>[]
def Tr.ok(ops:Array Oper):Tr->Nat->Array Bool->Bool->Bool
 | .nil,n,listed,_=>a1 n 0&&(m .any ops listed).isEmpty
 | .q _ _,0,_,_=>false
 | .q i t,n+1,listed,_=>((m .any ops listed).contains i&&a2 .any ops listed i)&&t.ok ops n (listed.setIfInBounds i true) true
 | .s _ _,0,_,_=>false
 | .s i t,n+1,listed,b=>(!b||(m .any ops listed == [i]))&&t.ok ops n (listed.setIfInBounds i true) true
 | .or _ _ _,0,_,_=>false
 | .or i t r,n+1,listed,b=>(!b||(m .any ops listed == i :: r.alts))&&(t.ok ops n (listed.setIfInBounds i true) true&&r.ok ops (n+1) listed false)
section
variable {P:G} {n:Nat} {T:Q} {N:Env->Hp->Prop} {X:Nat->Env->Hp->Prop} {R:Env->Hp->Prop} {F:Env} {h:Hp}
def vj(P:G)(T:Q)(ops:List Oper)(B:Nat)(h0:Hp)(N:Env->Hp->Prop):Tr->Env->Hp->Prop
 | .nil,F,h=>N F h
 | .q i t,F,h=>match nth ops i with
  | some ⟨d,op,ty,_,_,Z⟩=>Te P T B h0 op ty (fun v=>vj P T ops B h0 N t (YD F d v) h) F
  | some ⟨d,op,ty,_,_,A (j,b)⟩=>JO (Ww ops F j) b (Te P T B h0 op ty (fun v=>vj P T ops B h0 N t (YD F d v) h) F) (vj P T ops B h0 N t (YD F d undef) h)
  | none=>False
 | .s i t,F,h=>match nth ops i with
  | some ⟨d,op,ty,_,_,Z⟩=>Sf P T op ty (fun v h'=>Zj B h0 h'/\vj P T ops B h0 N t (YD F d v) h') F h
  | some ⟨d,op,ty,_,_,A (j,b)⟩=>JO (Ww ops F j) b (Sf P T op ty (fun v h'=>Zj B h0 h'/\vj P T ops B h0 N t (YD F d v) h') F h) (Zj B h0 h/\vj P T ops B h0 N t (YD F d undef) h)
  | none=>False
 | .or i t r,F,h=>(match nth ops i with
  | some ⟨d,op,ty,_,_,Z⟩=>Sf P T op ty (fun v h'=>Zj B h0 h'/\vj P T ops B h0 N t (YD F d v) h') F h
  | some ⟨d,op,ty,_,_,A (j,b)⟩=>JO (Ww ops F j) b (Sf P T op ty (fun v h'=>Zj B h0 h'/\vj P T ops B h0 N t (YD F d v) h') F h) (Zj B h0 h/\vj P T ops B h0 N t (YD F d undef) h)
  | none=>False)/\vj P T ops B h0 N r F h
theorem Tw{ops:List Oper}{i:Nat}{o:Oper}(h:nth ops i=A o):ops.toArray[i]? = A o:=by
 rw[List.getElem?_toArray,<-YU];exact h
theorem iE{ops:List Oper}{B:Nat}{h0:Hp}{i:Nat}{K K':Env->Hp->Prop}(hk:∀F h,K F h->K' F h)(H:match nth ops i with
    | some ⟨d,op,ty,_,_,Z⟩=>Sf P T op ty (fun v h'=>Zj B h0 h'/\K (YD F d v) h') F h
    | some ⟨d,op,ty,_,_,A (j,b)⟩=>JO (Ww ops F j) b (Sf P T op ty (fun v h'=>Zj B h0 h'/\K (YD F d v) h') F h) (Zj B h0 h/\K (YD F d undef) h)
    | none=>False):UA P T ops.toArray i (fun F' h'=>Zj B h0 h'/\K' F' h') F h:=by
 unfold UA
 cases ho:nth ops i with
 | none=>rw[ho]at H;exact H.elim
 | some o=>
  rw[Tw ho];rw[ho]at H;obtain⟨d,op,ty,pos,Vi,g⟩:=o
  cases g with
  | none=>
   show (if YK ops.toArray _ F=true then _ else _);rw[if_pos (by rfl)];exact UC (fun v h' q=>⟨q.1,hk _ _ q.2⟩) H
  | some jb=>
   obtain⟨j,b⟩:=jb;show (if YK ops.toArray _ F=true then _ else _);rcases XQ ops F d op pos Vi j b H with⟨hw,H⟩|⟨hw,H⟩
   .rw[if_pos hw];exact UC (fun v h' q=>⟨q.1,hk _ _ q.2⟩) H
   .rw[hw,if_neg IQ];exact⟨H.1,hk _ _ H.2⟩
def tKs(P:G)(T:Q)(ops:List Oper)(B:Nat)(h0:Hp)(N:Env->Hp->Prop)(t:Tr)(F:Env)(d:Option Tmp):O->Hp->Prop:=fun v h'=>Zj B h0 h'/\vj P T ops B h0 N t (YD F d v) h'
def tS(P:G)(T:Q)(ops:List Oper)(B:Nat)(h0:Hp)(N:Env->Hp->Prop)(t:Tr)(F:Env)(h:Hp)(o:Option Oper):Prop:=
 match o with
 | some ⟨d,op,ty,_,_,Z⟩=>Sf P T op ty (tKs P T ops B h0 N t F d) F h
 | some ⟨d,op,ty,_,_,A (j,b)⟩=>JO (Ww ops F j) b (Sf P T op ty (tKs P T ops B h0 N t F d) F h) (Zj B h0 h/\vj P T ops B h0 N t (YD F d undef) h)
 | none=>False
variable {ops:List Oper} {B:Nat} {h0:Hp} {t r:Tr} {i j:Nat} {d:Option Tmp} {op:Op} {ty:ab} {pos:String} {Vi:Array Edge} {b c:Bool} {v:O}
end
section
variable {B:Nat} {h h':Hp} {o:Obj} {b:Nat}
@[go_sem] theorem Zjr:Zj B h h=True:=eq_true (Zj.refl _ _)
@[go_sem] theorem Zkz(a:Zj h.size h h'):Zj h.size h (h'.push o)=True:=eq_true (a.add _)
@[go_sem] theorem ZkA(a:Zj B h h')(hb:B<=b):Zj B h (h'.setIfInBounds b o)=True:=eq_true (a.Zt hb _)
attribute [go_sem] Nat.le_add_right Nat.le_refl List.cons_append List.nil_append
@[go_sem] theorem ZkB(z:List O):Qr 1 z=z:=by simp[Qr]
@[go_sem] theorem ZkC(z:List O):Qr 2 z=z++z:=by simp[Qr]
end
theorem QF.ZkD{α:Type}{enc:α->List O}{n B:Nat}{E:ab}{h:Hp}{v:O}{l:List α}(UR:∀x,(enc x).length=n)(hn:n≠0)(s:QF B E enc n h v l):
  ∃p cap,v=.slice p (List.length l) cap/\(l≠[]->∃b o,p=A ⟨b,o,Z⟩/\B<=b/\b<h.size/\∀i (hi:i<(List.length l)),X6 h b (o+i*n) (enc l[i])):=by
 obtain⟨p,cap,hv,XL⟩:=s.ts.open UR hn;refine⟨p,cap,hv,fun Y7=>?_⟩;obtain⟨b,o,hp,hb,hc⟩:=XL Y7;refine⟨b,o,hp,?_,hb,hc⟩;rcases s.Zq with⟨_,h0,_⟩|⟨b',GP,ZG,hB,aD,_⟩
 .exact absurd (List.eq_nil_of_length_eq_zero h0) Y7
 .rw[hv,hp]at aD;simp only[Value.slice.injEq,Option.some.injEq,Addr.mk.injEq]at aD;obtain⟨⟨rfl,_⟩,_⟩:=aD;exact hB
theorem QF.one{α:Type}{enc:α->List O}{n B:Nat}{E:ab}{h:Hp}(x:α)(UR:∀x,(enc x).length=n)(hB:B<=h.size):QF B E enc n (h.push (.cells (enc x).toArray E)) (.slice (A ⟨h.size,0,Z⟩) 1 1) [x]:=by
 have:=QF.made (h:=h) (E:=E) (B:=B) UR [x] hB
 simpa [ZU] using this
section
variable {P:G} {n:Nat} {T:Q} {N:Env->Hp->Prop} {X:Nat->Env->Hp->Prop} {R:Env->Hp->Prop} {F:Env} {h:Hp}
def Lq(P:G)(T:Q)(ops:Array Oper)(S:Hp->Prop)(W:List Nat)(N:Env->Hp->Prop):Nat->Array Bool->Env->Hp->Prop
 | 0,listed,F,h=>m .any ops listed=[]/\N F h
 | k+1,listed,F,h=>(m .any ops listed=[]->N F h) /\
   ∀i∈m .any ops listed,UA P T ops i (fun F' h'=>(i∈W\/S h')/\Lq P T ops S W N k (listed.setIfInBounds i true) F' h') F h
theorem E6{S:Hp->Prop}{W:List Nat}:∀(k:Nat) (listed:Array Bool) (F:Env) (h:Hp),Lq P T ops S W N k listed F h->gq P T ops (fun _=>True) N k listed F h:=by
 intro k
 induction k with
 | zero=>intro listed F h H;exact H
 | succ k ih=>intro listed F h H;exact⟨H.1,fun i hi=>Qh (fun F' h' q=>⟨trivial,ih _ _ _ q.2⟩) (H.2 i hi)⟩
def QP(ops:Array Oper)(listed:Array Bool):Prop:=
 ∀(j:Nat) oj,ops[j]? = A oj->listed.getD j false=true->∀e∈oj.after,U .any e=true->listed.getD e.on false=true
theorem getD_set_true{l:Array Bool}{j k:Nat}(h:l.getD k false=true):(l.setIfInBounds j true).getD k false=true:=by
 rw[D]at h ⊢;rw[aa];by_cases mm:j=k
 .subst mm;rw[if_pos rfl];by_cases ZT:j<l.size
  .rw[if_pos ZT];rfl
  .rw[J pA]at h;cases h
 .rw[if_neg mm];exact h
theorem QP.set{listed:Array Bool}(c:QP ops listed){j:Nat}(hj:j∈m .any ops listed):QP ops (listed.setIfInBounds j true):=by
 intro k ok Um hl e he hb;obtain⟨_,oj,pD,XO⟩:=mem_ready.1 hj;by_cases mm:j=k
 .subst mm;rw[pD]at Um;obtain rfl:=Option.some.inj Um;exact getD_set_true (XO e he hb)
 .refine getD_set_true (c k ok Um ?_ e he hb);rw[D,aa,if_neg mm]at hl;rw[D];exact hl
def mG:Nat:=16
def ons(ops:Array Oper)(k:Nat):List Nat:=match ops[k]? with|some o=>(o.after.toList.filter fun e=>U .any e).map fun e=>e.on|none=>[]
def Bm(ops:Array Oper):Nat->List Nat->List Nat
 | 0,M=>M
 | k+1,M=>Bm ops k (if M.any (a1 k)=true then ons ops k++M else M)
def Vk(ops:Array Oper)(f j i:Nat):Bool:=(Bm ops j (ons ops j)).any (a1 i)
theorem GV{k:Nat}{L:Nat->Prop}(h:∀o,ops[k]? = A o->∀e∈o.after,U .any e=true->L e.on):∀x∈ons ops k,L x:=by
 intro x hx;unfold ons at hx
 cases ho:ops[k]? with
 | none=>rw[ho]at hx;cases hx
 | some o=>
  rw[ho]at hx;simp only[List.mem_map,List.mem_filter]at hx;obtain⟨e,⟨he,hb⟩,rfl⟩:=hx;exact h o ho e (by simpa using he) hb
theorem GW{listed:Array Bool}(c:QP ops listed):∀(k:Nat) (M:List Nat),(∀x∈M,listed.getD x false=true)->∀x∈Bm ops k M,listed.getD x false=true:=by
 intro k
 induction k with
 | zero=>intro M hM;exact hM
 | succ k ih=>
  intro M hM;refine ih _ ?_;split
  .rename_i hk;obtain⟨y,hy,he⟩:=aw.1 hk;obtain rfl:=Y he;intro x hx;rcases List.mem_append.1 hx with hx|hx
   .exact GV (L:=fun x=>listed.getD x false=true) (fun o ho e he hb=>c _ o ho (hM _ hy) e he hb) x hx
   .exact hM x hx
  .exact hM
theorem IG{listed:Array Bool}(c:QP ops listed){i f j:Nat}(h:Vk ops f j i=true)(hj:j∈m .any ops listed):listed.getD i false=true:=by
 obtain⟨_,o,ho,XO⟩:=mem_ready.1 hj;unfold Vk at h;obtain⟨y,hy,he⟩:=aw.1 h;obtain rfl:=Y he;refine GW c _ _ (GV (L:=fun x=>listed.getD x false=true) fun o' Mr e he hb=>?_) _ hy;rw[ho]at Mr;obtain rfl:=Option.some.inj Mr;exact XO e he hb
theorem IH{S:Hp->Prop}{W:List Nat}{i:Nat}{oi:Oper}{v:O}(hi:ops[i]? = A oi)(AY:∀(j:Nat) (o:Oper) cs b,ops[j]? = A o->o.op ≠ .select cs b)(hW:∀j∈W,∃f,Vk ops f j i=true):
  ∀(k:Nat) (listed:Array Bool) (F:Env) (h:Hp),QP ops listed ->
   (∀j oj,ops[j]? = A oj->j≠i->listed.getD j true=false->(∀e∈oj.after,U .any e=true->e.on≠i)->oi.apart ops oj=true) ->
   i∈m .any ops listed->Wh P T ops S oi v F->S h ->
   Lq P T ops S W N k (listed.setIfInBounds i true) (YD F oi.dst v) h->Lq P T ops S W N (k+1) listed F h:=by
 intro k
 induction k with
 | zero=>
  intro listed F h _ _ hr hy hS H;refine⟨fun h=>(by rw[h]at hr;cases hr),fun j hj=>?_⟩;by_cases Sd:j=i
  .subst Sd;exact hy.opI hi hS ⟨.inr hS,H⟩
  .have:=ready_mono hj Sd;rw[H.1]at this
   cases this
 | succ k ih=>
  intro listed F h J9 ID hr hy hS H;refine⟨fun h=>(by rw[h]at hr;cases hr),fun j hj=>?_⟩;by_cases Sd:j=i
  .subst Sd;exact hy.opI hi hS ⟨.inr hS,H⟩
  .have h1:=H.2 j (ready_mono hj Sd);obtain⟨AZ,oj,pD,XO⟩:=mem_ready.1 hj;have CY:∀e∈oj.after,U .any e=true->e.on≠i:=fun e he hb heq=>by
    have h1:=XO e he hb;have h0:=(mem_ready.1 hr).1;rw[heq]at h1;rcases Nat.lt_or_ge i listed.size with h'|h'
    .simp[h']at h0 h1;rw[h0]at h1;cases h1
    .simp[J h']at h1
   have hjW:j ∉ W:=fun hjw=>by
    obtain⟨f,hf⟩:=hW j hjw;have h1:=IG J9 hf hj;have h0:=(mem_ready.1 hr).1;rcases Nat.lt_or_ge i listed.size with h'|h'
    .simp[h']at h0 h1;rw[h0]at h1;cases h1
    .simp[J h']at h1
   have h2:=Gv pD (ID j oj pD Sd AZ CY) (fun cs b=>AY i oi cs b hi) (fun cs b=>AY j oj cs b pD) hy h1;have Gx:∀k ok,ops[k]? = A ok->k≠i->(listed.setIfInBounds j true).getD k true=false ->
     (∀e∈ok.after,U .any e=true->e.on≠i)->oi.apart ops ok=true:=fun k ok hk hki hun mj=>by
    refine ID k ok hk hki ?_ mj;by_cases mm:j=k
    .subst mm;exact AZ
    .rw[getD_set_ne true mm]at hun;exact hun
   refine Qh (fun F' h' h3=>?_) h2;have hS':S h':=h3.2.1.resolve_left hjW;refine⟨.inr hS',ih (listed.setIfInBounds j true) F' h' (J9.set hj) Gx (ready_mono hr (Ne.symm Sd)) h3.1 hS' ?_⟩;rw[Array.setIfInBounds_comm _ _ Sd];exact h3.2.2
inductive NF where
 | nil
 | q (i:Nat) (t:NF)
 | s (i:Nat) (t:NF)
 | w (i:Nat) (t:NF)
 | or (i:Nat) (t:NF) (r:NF)
def NF.alts:NF->List Nat
 | .s i _=>[i]
 | .w i _=>[i]
 | .or i _ r=>i :: r.alts
 | _=>[]
def NF.Lr:NF->Bool
 | .q _ _=>true
 | .s _ t=>t.Lr
 | .or _ t r=>t.Lr||r.Lr
 | _=>false
def NF.ok(ops:Array Oper)(W:List Nat):NF->Nat->Array Bool->Bool->Bool
 | .nil,n,listed,_=>a1 n 0&&(m .any ops listed).isEmpty
 | .q _ _,0,_,_=>false
 | .q i t,n+1,listed,_=>((m .any ops listed).contains i&&(a2 .any ops listed i&&W.all fun j=>Vk ops mG j i))&&t.ok ops W n (listed.setIfInBounds i true) true
 | .s _ _,0,_,_=>false
 | .s i t,n+1,listed,b=>(!b||(m .any ops listed == [i]))&&t.ok ops W n (listed.setIfInBounds i true) true
 | .w _ _,0,_,_=>false
 | .w i t,n+1,listed,b=>((!b||(m .any ops listed == [i]))&&(W.contains i&&!t.Lr))&&t.ok ops W n (listed.setIfInBounds i true) true
 | .or _ _ _,0,_,_=>false
 | .or i t r,n+1,listed,b=>(!b||(m .any ops listed == i :: r.alts))&&(t.ok ops W n (listed.setIfInBounds i true) true&&r.ok ops W (n+1) listed false)
def mH(P:G)(T:Q)(ops:Array Oper)(S:Hp->Prop)(N:Env->Hp->Prop):NF->Env->Hp->Prop
 | .nil,F,h=>N F h
 | .q i t,F,h=>match ops[i]? with
  | some o=>if YK ops o F then ∃v,(∀h',S h'->EN P T o (fun v' Kw=>v'=v/\Kw=h') F h')/\mH P T ops S N t (YD F o.dst v) h else mH P T ops S N t (YD F o.dst undef) h
  | none=>False
 | .s i t,F,h=>UA P T ops i (fun F' h'=>S h'/\mH P T ops S N t F' h') F h
 | .w i t,F,h=>UA P T ops i (fun F' h'=>mH P T ops S N t F' h') F h
 | .or i t r,F,h=>UA P T ops i (fun F' h'=>S h'/\mH P T ops S N t F' h') F h/\mH P T ops S N r F h
theorem Bn{S:Hp->Prop}{W:List Nat}(hs:aO ops=true):∀(t:NF),
  (∀(k:Nat) (listed:Array Bool) (F:Env) (h:Hp),QP ops listed->t.ok ops W k listed true=true->(t.Lr=true->S h)->mH P T ops S N t F h->Lq P T ops S W N k listed F h) /\
  (∀(k:Nat) (listed:Array Bool) (F:Env) (h:Hp),QP ops listed->t.ok ops W (k+1) listed false=true->mH P T ops S N t F h->∀j∈t.alts,j∈m .any ops listed->UA P T ops j (fun F' h'=>(j∈W\/S h')/\Lq P T ops S W N k (listed.setIfInBounds j true) F' h') F h):=by
 intro t
 induction t with
 | nil=>
  refine⟨fun k listed F h J9 hB hS H=>?_,fun k listed F h _ _ _ j hj=>by cases hj⟩;simp only[NF.ok,u,List.isEmpty_iff]at hB;obtain⟨h1,h2⟩:=hB;obtain rfl:=Y h1;exact⟨h2,H⟩
 | q i t ih=>
  refine⟨fun k listed F h J9 hB hS H=>?_,fun k listed F h _ _ _ j hj=>by cases hj⟩;have hS:=hS rfl
  cases k with
  | zero=>simp[NF.ok]at hB
  | succ k=>
   simp only[NF.ok,u]at hB;obtain⟨⟨h1,h2,hw⟩,h3⟩:=hB;have Mi:i∈m .any ops listed:=by simpa using h1
   obtain⟨_,o,ho,_⟩:=mem_ready.1 Mi;have hW:∀j∈W,∃f,Vk ops f j i=true:=fun j hj=>⟨mG,List.all_eq_true.1 hw j hj⟩
   simp only[mH,ho]at H;split at H
   .rename_i Gu;obtain⟨v,hv,H⟩:=H;exact IH ho (ae hs) hW k listed F h J9 (aN ho h2) Mi (.inl ⟨Gu,hv⟩) hS (ih.1 k _ _ _ (J9.set Mi) h3 (fun _=>hS) H)
   .rename_i Gu;exact IH ho (ae hs) hW k listed F h J9 (aN ho h2) Mi (.inr ⟨by simpa using Gu,rfl⟩) hS (ih.1 k _ _ _ (J9.set Mi) h3 (fun _=>hS) H)
 | s i t ih=>
  have second:∀(k:Nat) (listed:Array Bool) (F:Env) (h:Hp),QP ops listed->i∈m .any ops listed->t.ok ops W k (listed.setIfInBounds i true) true=true->mH P T ops S N (.s i t) F h->UA P T ops i (fun F' h'=>(i∈W\/S h')/\Lq P T ops S W N k (listed.setIfInBounds i true) F' h') F h:=by
   intro k listed F h J9 Mi hB H;exact Qh (fun F' h' q=>⟨.inr q.1,ih.1 k _ _ _ (J9.set Mi) hB (fun _=>q.1) q.2⟩) H
  refine⟨fun k listed F h J9 hB hS H=>?_,fun k listed F h J9 hB H j hj hr=>?_⟩
  .cases k with
   | zero=>simp[NF.ok]at hB
   | succ k=>
    simp only[NF.ok,u,ag,al,beq_iff_eq]at hB;refine⟨fun h0=>(by rw[hB.1]at h0;cases h0),fun j hj=>?_⟩;have hr:=hj;rw[hB.1]at hj;have hj:j=i:=by simpa using hj
    subst hj;exact second k listed F h J9 hr hB.2 H
  .simp only[NF.ok,u]at hB;have hj:j=i:=by simpa [NF.alts] using hj
   subst hj;exact second k listed F h J9 hr hB.2 H
 | w i t ih=>
  have second:∀(k:Nat) (listed:Array Bool) (F:Env) (h:Hp),QP ops listed->i∈m .any ops listed->i∈W->t.Lr=false->t.ok ops W k (listed.setIfInBounds i true) true=true->mH P T ops S N (.w i t) F h->UA P T ops i (fun F' h'=>(i∈W\/S h')/\Lq P T ops S W N k (listed.setIfInBounds i true) F' h') F h:=by
   intro k listed F h J9 Mi hw hq hB H;exact Qh (fun F' h' q=>⟨.inl hw,ih.1 k _ _ _ (J9.set Mi) hB (fun e=>by rw[hq]at e;cases e) q⟩) H
  refine⟨fun k listed F h J9 hB hS H=>?_,fun k listed F h J9 hB H j hj hr=>?_⟩
  .cases k with
   | zero=>simp[NF.ok]at hB
   | succ k=>
    simp only[NF.ok,u,ag,al,beq_iff_eq,am]at hB;obtain⟨⟨h1,h2,h3⟩,h4⟩:=hB;refine⟨fun h0=>(by rw[h1]at h0;cases h0),fun j hj=>?_⟩;have hr:=hj;rw[h1]at hj;have hj:j=i:=by simpa using hj
    subst hj;exact second k listed F h J9 hr (by simpa using h2) h3 h4 H
  .simp only[NF.ok,u,am]at hB;obtain⟨⟨h1,h2,h3⟩,h4⟩:=hB;have hj:j=i:=by simpa [NF.alts] using hj
   subst hj;exact second k listed F h J9 hr (by simpa using h2) h3 h4 H
 | or i t r iht ihr=>
  have second:∀(k:Nat) (listed:Array Bool) (F:Env) (h:Hp),QP ops listed->t.ok ops W k (listed.setIfInBounds i true) true=true->r.ok ops W (k+1) listed false=true->mH P T ops S N (.or i t r) F h->∀j∈(NF.or i t r).alts,j∈m .any ops listed->UA P T ops j (fun F' h'=>(j∈W\/S h')/\Lq P T ops S W N k (listed.setIfInBounds j true) F' h') F h:=by
   intro k listed F h J9 hB hR H j hj hr;rcases List.mem_cons.1 hj with hj|hj
   .subst hj;exact Qh (fun F' h' q=>⟨.inr q.1,iht.1 k _ _ _ (J9.set hr) hB (fun _=>q.1) q.2⟩) H.1
   .exact ihr.2 k listed F h J9 hR H.2 j hj hr
  refine⟨fun k listed F h J9 hB hS H=>?_,fun k listed F h J9 hB H j hj hr=>?_⟩
  .cases k with
   | zero=>simp[NF.ok]at hB
   | succ k=>
    simp only[NF.ok,u,ag,al,beq_iff_eq]at hB;refine⟨fun h0=>(by rw[hB.1]at h0;cases h0),fun j hj=>?_⟩;have hr:=hj;rw[hB.1]at hj;exact second k listed F h J9 hB.2.1 hB.2.2 H j hj hr
  .simp only[NF.ok,u]at hB;exact second k listed F h J9 hB.2.1 hB.2.2 H j hj hr
def wKs(B:Nat)(h0:Hp)(K:Env->Hp->Prop)(F:Env)(d:Option Tmp):O->Hp->Prop:=fun v h'=>Zj B h0 h'/\K (YD F d v) h'
def wKw(K:Env->Hp->Prop)(F:Env)(d:Option Tmp):O->Hp->Prop:=fun v h'=>K (YD F d v) h'
def wQg(P:G)(T:Q)(B:Nat)(h0:Hp)(K:Env->Hp->Prop)(F:Env)(h:Hp)(d:Option Tmp)(op:Op)(ty:ab)(v:O)(b:Bool):Prop:=JO v b (Te P T B h0 op ty (fun v=>K (YD F d v) h) F) (K (YD F d undef) h)
def wQ(P:G)(T:Q)(ops:List Oper)(B:Nat)(h0:Hp)(K:Env->Hp->Prop)(F:Env)(h:Hp)(o:Option Oper):Prop:=
 match o with
 | some ⟨d,op,ty,_,_,Z⟩=>Te P T B h0 op ty (fun v=>K (YD F d v) h) F
 | some ⟨d,op,ty,_,_,A (j,b)⟩=>wQg P T B h0 K F h d op ty (Ww ops F j) b
 | none=>False
def wSg(P:G)(T:Q)(B:Nat)(h0:Hp)(K:Env->Hp->Prop)(F:Env)(h:Hp)(d:Option Tmp)(op:Op)(ty:ab)(v:O)(b:Bool):Prop:=JO v b (Sf P T op ty (wKs B h0 K F d) F h) (Zj B h0 h/\K (YD F d undef) h)
def wS(P:G)(T:Q)(ops:List Oper)(B:Nat)(h0:Hp)(K:Env->Hp->Prop)(F:Env)(h:Hp)(o:Option Oper):Prop:=
 match o with
 | some ⟨d,op,ty,_,_,Z⟩=>Sf P T op ty (wKs B h0 K F d) F h
 | some ⟨d,op,ty,_,_,A (j,b)⟩=>wSg P T B h0 K F h d op ty (Ww ops F j) b
 | none=>False
def wWg(P:G)(T:Q)(K:Env->Hp->Prop)(F:Env)(h:Hp)(d:Option Tmp)(op:Op)(ty:ab)(v:O)(b:Bool):Prop:=JO v b (Sf P T op ty (wKw K F d) F h) (K (YD F d undef) h)
def wW(P:G)(T:Q)(ops:List Oper)(K:Env->Hp->Prop)(F:Env)(h:Hp)(o:Option Oper):Prop:=
 match o with
 | some ⟨d,op,ty,_,_,Z⟩=>Sf P T op ty (wKw K F d) F h
 | some ⟨d,op,ty,_,_,A (j,b)⟩=>wWg P T K F h d op ty (Ww ops F j) b
 | none=>False
def AO(P:G)(T:Q)(ops:List Oper)(B:Nat)(h0:Hp)(N:Env->Hp->Prop):NF->Env->Hp->Prop
 | .nil,F,h=>N F h
 | .q i t,F,h=>wQ P T ops B h0 (AO P T ops B h0 N t) F h (nth ops i)
 | .s i t,F,h=>wS P T ops B h0 (AO P T ops B h0 N t) F h (nth ops i)
 | .w i t,F,h=>wW P T ops (AO P T ops B h0 N t) F h (nth ops i)
 | .or i t r,F,h=>wS P T ops B h0 (AO P T ops B h0 N t) F h (nth ops i)/\AO P T ops B h0 N r F h
theorem Ls{ops:List Oper}{B:Nat}{h0:Hp}{i:Nat}{K K':Env->Hp->Prop}(hk:∀F h,K F h->K' F h)(H:wS P T ops B h0 K F h (nth ops i)):UA P T ops.toArray i (fun F' h'=>Zj B h0 h'/\K' F' h') F h:=by
 refine iE (K:=K) hk ?_
 cases ho:nth ops i with
 | none=>rw[ho]at H;exact H.elim
 | some o=>
  rw[ho]at H;obtain⟨d,op,ty,pos,Vi,g⟩:=o
  cases g with
  | none=>exact H
  | some jb=>exact H
theorem aL{ops:List Oper}{i:Nat}{K K':Env->Hp->Prop}(hk:∀F h,K F h->K' F h)(H:wW P T ops K F h (nth ops i)):UA P T ops.toArray i K' F h:=by
 unfold UA
 cases ho:nth ops i with
 | none=>rw[ho]at H;exact H.elim
 | some o=>
  rw[Tw ho];rw[ho]at H;obtain⟨d,op,ty,pos,Vi,g⟩:=o
  cases g with
  | none=>
   show (if YK ops.toArray _ F=true then _ else _);rw[if_pos (by rfl)];exact UC (fun v h' q=>hk _ _ q) H
  | some jb=>
   obtain⟨j,b⟩:=jb;show (if YK ops.toArray _ F=true then _ else _);rcases XQ ops F d op pos Vi j b H with⟨hw,H⟩|⟨hw,H⟩
   .rw[if_pos hw];exact UC (fun v h' q=>hk _ _ q) H
   .rw[hw,if_neg IQ];exact hk _ _ H
theorem iF{ops:List Oper}{B:Nat}{h0:Hp}{N:Env->Hp->Prop}:∀(t:NF) (F:Env) (h:Hp),AO P T ops B h0 N t F h->mH P T ops.toArray (fun h'=>Zj B h0 h') N t F h:=by
 intro t
 induction t with
 | nil=>intro F h H;exact H
 | q i t ih=>
  intro F h H;simp only[AO]at H;simp only[mH]
  cases ho:nth ops i with
  | none=>rw[ho]at H;exact H.elim
  | some o=>
   rw[Tw ho];rw[ho]at H;obtain⟨d,op,ty,pos,Vi,g⟩:=o
   cases g with
   | none=>
    show (if YK ops.toArray _ F=true then _ else _);rw[if_pos (by rfl)];obtain⟨v,hv,H⟩:=Tf H;exact⟨v,fun h' hs=>QO (hv h' hs),ih _ _ H⟩
   | some jb=>
    obtain⟨j,b⟩:=jb;show (if YK ops.toArray _ F=true then _ else _);rcases XQ ops F d op pos Vi j b H with⟨hw,H⟩|⟨hw,H⟩
    .rw[if_pos hw];obtain⟨v,hv,H⟩:=Tf H;exact⟨v,fun h' hs=>QO (hv h' hs),ih _ _ H⟩
    .rw[hw,if_neg IQ];exact ih _ _ H
 | s i t ih=>intro F h H;exact Ls ih H
 | w i t ih=>intro F h H;exact aL ih H
 | or i t r iht ihr=>intro F h H;exact⟨Ls iht H.1,ihr _ _ H.2⟩
theorem II(ops:Array Oper)(n:Nat):QP ops (a0 n false):=by
 intro j oj _ hl;rw[D]at hl;by_cases hj:j<n
 .simp[hj]at hl
 .rw[J VL]at hl;cases hl
def ZkG(n:Nat)(ops:Array Oper)(W:List Nat)(t:NF):Bool:=IA n ops&&(aO ops&&t.ok ops W ops.size (a0 ops.size false) true)
theorem VS.w{id:Nat}{ops:List Oper}(B:Nat)(W:List Nat)(t:NF)(hm:P.follows .mixedOrders=true)(Um:ZkG n ops.toArray W t=true)(H:AO P T ops B h N t F h):VS P n T (.region id ops.toArray true) N X R F h:=by
 intro a w h1 h2 h3 h4;simp only[ZkG,u]at Um;obtain⟨k1,k2,k3⟩:=Um;refine wp_region_any hm ?_;refine QN k1 _ _ F h (E6 _ _ _ _ ((Bn (S:=fun h'=>Zj B h h') k2 t).1 _ _ F h (II _ _) k3 (fun _=>Zj.refl _ _) (iF t F h H))) a _ h1 h2 h3 ⟨h4.heap,h4.tape,h4.os,h4.output⟩
variable {ops:List Oper} {B:Nat} {h0:Hp} {t r:NF} {i j:Nat} {d:Option Tmp} {op:Op} {ty:ab} {pos:String} {Vi:Array Edge} {b c:Bool} {v:O} {K:Env->Hp->Prop}
def wKq(K:Env->Hp->Prop)(F:Env)(d:Option Tmp)(h:Hp):O->Prop:=fun v=>K (YD F d v) h
@[go_sem] theorem Zom:AO P T ops B h0 N .nil F h=N F h:=rfl
@[go_sem] theorem ZxN:AO P T ops B h0 N (.q i t) F h=wQ P T ops B h0 (AO P T ops B h0 N t) F h (nth ops i):=rfl
@[go_sem] theorem ZxO:AO P T ops B h0 N (.s i t) F h=wS P T ops B h0 (AO P T ops B h0 N t) F h (nth ops i):=rfl
@[go_sem] theorem ZxP:AO P T ops B h0 N (.w i t) F h=wW P T ops (AO P T ops B h0 N t) F h (nth ops i):=rfl
@[go_sem] theorem ZrA:AO P T ops B h0 N (.or i t r) F h=(wS P T ops B h0 (AO P T ops B h0 N t) F h (nth ops i)/\AO P T ops B h0 N r F h):=rfl
@[go_sem] theorem ZkI:wQ P T ops B h0 K F h (A ⟨d,op,ty,pos,Vi,Z⟩)=Te P T B h0 op ty (wKq K F d h) F:=rfl
@[go_sem] theorem ZkJ:wQ P T ops B h0 K F h (A ⟨d,op,ty,pos,Vi,A (j,b)⟩)=wQg P T B h0 K F h d op ty (Ww ops F j) b:=rfl
@[go_sem] theorem ZkK:wS P T ops B h0 K F h (A ⟨d,op,ty,pos,Vi,Z⟩)=Sf P T op ty (wKs B h0 K F d) F h:=rfl
@[go_sem] theorem ZkL:wS P T ops B h0 K F h (A ⟨d,op,ty,pos,Vi,A (j,b)⟩)=wSg P T B h0 K F h d op ty (Ww ops F j) b:=rfl
@[go_sem] theorem ZkM:wW P T ops K F h (A ⟨d,op,ty,pos,Vi,Z⟩)=Sf P T op ty (wKw K F d) F h:=rfl
@[go_sem] theorem ZkN:wW P T ops K F h (A ⟨d,op,ty,pos,Vi,A (j,b)⟩)=wWg P T K F h d op ty (Ww ops F j) b:=rfl
@[go_sem] theorem ZkO:wQg P T B h0 K F h d op ty (.bool c) b=if c=b then Te P T B h0 op ty (wKq K F d h) F else K (YD F d undef) h:=rfl
@[go_sem] theorem ZkP:wSg P T B h0 K F h d op ty (.bool c) b=if c=b then Sf P T op ty (wKs B h0 K F d) F h else (Zj B h0 h/\K (YD F d undef) h):=rfl
@[go_sem] theorem ZkQ:wWg P T K F h d op ty (.bool c) b=if c=b then Sf P T op ty (wKw K F d) F h else K (YD F d undef) h:=rfl
@[go_sem] theorem Zon:wKq K F d h v=K (YD F d v) h:=rfl
@[go_sem] theorem Zoo:wKs B h0 K F d v h=(Zj B h0 h/\K (YD F d v) h):=rfl
@[go_sem] theorem Zop:wKw K F d v h=K (YD F d v) h:=rfl
end
end Go.V
