/- Part W11. -/
import Derived.Test.YtdapjaalaomghaaGreatDoorW8
open List renaming any_eq_true→aw
open Nat renaming eq_of_beq_eq_true→Y,beq→a2
open Option renaming some→A,none→Z
open Array renaming getD_eq_getD_getElem?→D,getElem?_eq_none→J,getElem?_setIfInBounds→aa,replicate→a1
open Bool renaming and_eq_true→u,not_true→am,false_or→ao,not_eq_true'→aq
open Go.Region renaming ready→m,binds→U,noSelect_spec→al,free_spec→aU,noSelect→a0,free→a3
open Go renaming Program→G,Value→O,World→Q,TypeId→ab
namespace Go.V
set_option linter.all false
variable{ops:Array Oper}
inductive Tr where
 | nil
 | q (i:Nat) (t:Tr)
 | s (i:Nat) (t:Tr)
 | or (i:Nat) (t:Tr) (r:Tr)
def Tr.alts:Tr->List Nat
 | .s i _=>[i]
 | .or i _ r=>i :: r.alts
 | _=>[]
def Tr.ok(ops:Array Oper):Tr->Nat->Array Bool->Bool->Bool
 | .nil,n,listed,_=>a2 n 0&&(m .any ops listed).isEmpty
 | .q _ _,0,_,_=>false
 | .q i t,n+1,listed,_=>((m .any ops listed).contains i&&a3 .any ops listed i)&&t.ok ops n (listed.setIfInBounds i true) true
 | .s _ _,0,_,_=>false
 | .s i t,n+1,listed,b=>(!b||(m .any ops listed == [i]))&&t.ok ops n (listed.setIfInBounds i true) true
 | .or _ _ _,0,_,_=>false
 | .or i t r,n+1,listed,b=>(!b||(m .any ops listed == i :: r.alts))&&(t.ok ops n (listed.setIfInBounds i true) true&&r.ok ops (n+1) listed false)
section
variable {P:G} {n:Nat} {T:Q} {N:Env->Hp->Prop} {X:Nat->Env->Hp->Prop} {R:Env->Hp->Prop} {F:Env} {h:Hp}
def ug(P:G)(T:Q)(ops:List Oper)(B:Nat)(h0:Hp)(N:Env->Hp->Prop):Tr->Env->Hp->Prop
 | .nil,F,h=>N F h
 | .q i t,F,h=>match nth ops i with
  | some ⟨d,op,ty,_,_,Z⟩=>S4 P T B h0 op ty (fun v=>ug P T ops B h0 N t (YB F d v) h) F
  | some ⟨d,op,ty,_,_,A (j,b)⟩=>JL (WC ops F j) b (S4 P T B h0 op ty (fun v=>ug P T ops B h0 N t (YB F d v) h) F) (ug P T ops B h0 N t (YB F d undef) h)
  | none=>False
 | .s i t,F,h=>match nth ops i with
  | some ⟨d,op,ty,_,_,Z⟩=>Sb P T op ty (fun v h'=>Zj B h0 h'/\ug P T ops B h0 N t (YB F d v) h') F h
  | some ⟨d,op,ty,_,_,A (j,b)⟩=>JL (WC ops F j) b (Sb P T op ty (fun v h'=>Zj B h0 h'/\ug P T ops B h0 N t (YB F d v) h') F h) (Zj B h0 h/\ug P T ops B h0 N t (YB F d undef) h)
  | none=>False
 | .or i t r,F,h=>(match nth ops i with
  | some ⟨d,op,ty,_,_,Z⟩=>Sb P T op ty (fun v h'=>Zj B h0 h'/\ug P T ops B h0 N t (YB F d v) h') F h
  | some ⟨d,op,ty,_,_,A (j,b)⟩=>JL (WC ops F j) b (Sb P T op ty (fun v h'=>Zj B h0 h'/\ug P T ops B h0 N t (YB F d v) h') F h) (Zj B h0 h/\ug P T ops B h0 N t (YB F d undef) h)
  | none=>False)/\ug P T ops B h0 N r F h
theorem Tt{ops:List Oper}{i:Nat}{o:Oper}(h:nth ops i=A o):ops.toArray[i]? = A o:=by
 rw[List.getElem?_toArray,<-YW];exact h
theorem gX{ops:List Oper}{B:Nat}{h0:Hp}{i:Nat}{K K':Env->Hp->Prop}(hk:∀F h,K F h->K' F h)(H:match nth ops i with
    | some ⟨d,op,ty,_,_,Z⟩=>Sb P T op ty (fun v h'=>Zj B h0 h'/\K (YB F d v) h') F h
    | some ⟨d,op,ty,_,_,A (j,b)⟩=>JL (WC ops F j) b (Sb P T op ty (fun v h'=>Zj B h0 h'/\K (YB F d v) h') F h) (Zj B h0 h/\K (YB F d undef) h)
    | none=>False):Ut P T ops.toArray i (fun F' h'=>Zj B h0 h'/\K' F' h') F h:=by
 unfold Ut
 cases ho:nth ops i with
 | none=>rw[ho]at H;exact H.elim
 | some o=>
  rw[Tt ho];rw[ho]at H;obtain⟨d,op,ty,pos,Vi,g⟩:=o
  cases g with
  | none=>
   show (if YI ops.toArray _ F=true then _ else _);rw[if_pos (by rfl)];exact Uv (fun v h' q=>⟨q.1,hk _ _ q.2⟩) H
  | some jb=>
   obtain⟨j,b⟩:=jb;show (if YI ops.toArray _ F=true then _ else _);rcases XK ops F d op pos Vi j b H with⟨hw,H⟩|⟨hw,H⟩
   .rw[if_pos hw];exact Uv (fun v h' q=>⟨q.1,hk _ _ q.2⟩) H
   .rw[hw,if_neg uK];exact⟨H.1,hk _ _ H.2⟩
def tKs(P:G)(T:Q)(ops:List Oper)(B:Nat)(h0:Hp)(N:Env->Hp->Prop)(t:Tr)(F:Env)(d:Option Tmp):O->Hp->Prop:=fun v h'=>Zj B h0 h'/\ug P T ops B h0 N t (YB F d v) h'
def tS(P:G)(T:Q)(ops:List Oper)(B:Nat)(h0:Hp)(N:Env->Hp->Prop)(t:Tr)(F:Env)(h:Hp)(o:Option Oper):Prop:=
 match o with
 | some ⟨d,op,ty,_,_,Z⟩=>Sb P T op ty (tKs P T ops B h0 N t F d) F h
 | some ⟨d,op,ty,_,_,A (j,b)⟩=>JL (WC ops F j) b (Sb P T op ty (tKs P T ops B h0 N t F d) F h) (Zj B h0 h/\ug P T ops B h0 N t (YB F d undef) h)
 | none=>False
variable {ops:List Oper} {B:Nat} {h0:Hp} {t r:Tr} {i j:Nat} {d:Option Tmp} {op:Op} {ty:ab} {pos:String} {Vi:Array Edge} {b c:Bool} {v:O}
end
section
variable {B:Nat} {h h':Hp} {o:Obj} {b:Nat}
@[go_sem] theorem Zi1:Zj B h h=True:=eq_true (Zj.refl _ _)
@[go_sem] theorem Zkd(a:Zj h.size h h'):Zj h.size h (h'.push o)=True:=eq_true (a.add _)
@[go_sem] theorem Zke(a:Zj B h h')(hb:B<=b):Zj B h (h'.setIfInBounds b o)=True:=eq_true (a.Zs hb _)
attribute [go_sem] Nat.le_add_right Nat.le_refl List.cons_append List.nil_append
@[go_sem] theorem Zkf(z:List O):Qg 1 z=z:=by simp[Qg]
@[go_sem] theorem Zkg(z:List O):Qg 2 z=z++z:=by simp[Qg]
end
theorem Qv.Zkh{α:Type}{enc:α->List O}{n B:Nat}{E:ab}{h:Hp}{v:O}{l:List α}(Vl:∀x,(enc x).length=n)(hn:n≠0)(s:Qv B E enc n h v l):
  ∃p cap,v=.slice p (List.length l) cap/\(l≠[]->∃b o,p=A ⟨b,o,Z⟩/\B<=b/\b<h.size/\∀i (hi:i<(List.length l)),JG h b (o+i*n) (enc l[i])):=by
 obtain⟨p,cap,hv,XI⟩:=s.ts.open Vl hn;refine⟨p,cap,hv,fun Y4=>?_⟩;obtain⟨b,o,hp,hb,hc⟩:=XI Y4;refine⟨b,o,hp,?_,hb,hc⟩;rcases s.Zm with⟨_,h0,_⟩|⟨b',Gz,ZG,hB,ae,_⟩
 .exact absurd (List.eq_nil_of_length_eq_zero h0) Y4
 .rw[hv,hp]at ae;simp only[Value.slice.injEq,Option.some.injEq,Addr.mk.injEq]at ae;obtain⟨⟨rfl,_⟩,_⟩:=ae;exact hB
theorem Qv.one{α:Type}{enc:α->List O}{n B:Nat}{E:ab}{h:Hp}(x:α)(Vl:∀x,(enc x).length=n)(hB:B<=h.size):Qv B E enc n (h.push (.cells (enc x).toArray E)) (.slice (A ⟨h.size,0,Z⟩) 1 1) [x]:=by
 have:=Qv.made (h:=h) (E:=E) (B:=B) Vl [x] hB
 simpa [ZU] using this
section
variable {P:G} {n:Nat} {T:Q} {N:Env->Hp->Prop} {X:Nat->Env->Hp->Prop} {R:Env->Hp->Prop} {F:Env} {h:Hp}
def La(P:G)(T:Q)(ops:Array Oper)(S:Hp->Prop)(W:List Nat)(N:Env->Hp->Prop):Nat->Array Bool->Env->Hp->Prop
 | 0,listed,F,h=>m .any ops listed=[]/\N F h
 | k+1,listed,F,h=>(m .any ops listed=[]->N F h) /\
   ∀i∈m .any ops listed,Ut P T ops i (fun F' h'=>(i∈W\/S h')/\La P T ops S W N k (listed.setIfInBounds i true) F' h') F h
theorem EJ{S:Hp->Prop}{W:List Nat}:∀(k:Nat) (listed:Array Bool) (F:Env) (h:Hp),La P T ops S W N k listed F h->fN P T ops (fun _=>True) N k listed F h:=by
 intro k
 induction k with
 | zero=>intro listed F h H;exact H
 | succ k ih=>intro listed F h H;exact⟨H.1,fun i hi=>J8 (fun F' h' q=>⟨trivial,ih _ _ _ q.2⟩) (H.2 i hi)⟩
def QH(ops:Array Oper)(listed:Array Bool):Prop:=
 ∀(j:Nat) oj,ops[j]? = A oj->listed.getD j false=true->∀e∈oj.after,U .any e=true->listed.getD e.on false=true
theorem getD_set_true{l:Array Bool}{j k:Nat}(h:l.getD k false=true):(l.setIfInBounds j true).getD k false=true:=by
 rw[D]at h ⊢;rw[aa];by_cases kZ:j=k
 .subst kZ;rw[if_pos rfl];by_cases ZS:j<l.size
  .rw[if_pos ZS];rfl
  .rw[J nT]at h;cases h
 .rw[if_neg kZ];exact h
theorem QH.set{listed:Array Bool}(c:QH ops listed){j:Nat}(hj:j∈m .any ops listed):QH ops (listed.setIfInBounds j true):=by
 intro k ok Uj hl e he hb;obtain⟨_,oj,nW,Jc⟩:=mem_ready.1 hj;by_cases kZ:j=k
 .subst kZ;rw[nW]at Uj;obtain rfl:=Option.some.inj Uj;exact getD_set_true (Jc e he hb)
 .refine getD_set_true (c k ok Uj ?_ e he hb);rw[D,aa,if_neg kZ]at hl;rw[D];exact hl
def lK:Nat:=16
def ons(ops:Array Oper)(k:Nat):List Nat:=match ops[k]? with|some o=>(o.after.toList.filter fun e=>U .any e).map fun e=>e.on|none=>[]
def CY(ops:Array Oper):Nat->List Nat->List Nat
 | 0,M=>M
 | k+1,M=>CY ops k (if M.any (a2 k)=true then ons ops k++M else M)
def Vm(ops:Array Oper)(f j i:Nat):Bool:=(CY ops j (ons ops j)).any (a2 i)
theorem GD{k:Nat}{L:Nat->Prop}(h:∀o,ops[k]? = A o->∀e∈o.after,U .any e=true->L e.on):∀x∈ons ops k,L x:=by
 intro x hx;unfold ons at hx
 cases ho:ops[k]? with
 | none=>rw[ho]at hx;cases hx
 | some o=>
  rw[ho]at hx;simp only[List.mem_map,List.mem_filter]at hx;obtain⟨e,⟨he,hb⟩,rfl⟩:=hx;exact h o ho e (by simpa using he) hb
theorem GF{listed:Array Bool}(c:QH ops listed):∀(k:Nat) (M:List Nat),(∀x∈M,listed.getD x false=true)->∀x∈CY ops k M,listed.getD x false=true:=by
 intro k
 induction k with
 | zero=>intro M hM;exact hM
 | succ k ih=>
  intro M hM;refine ih _ ?_;split
  .rename_i hk;obtain⟨y,hy,he⟩:=aw.1 hk;obtain rfl:=Y he;intro x hx;rcases List.mem_append.1 hx with hx|hx
   .exact GD (L:=fun x=>listed.getD x false=true) (fun o ho e he hb=>c _ o ho (hM _ hy) e he hb) x hx
   .exact hM x hx
  .exact hM
theorem Ip{listed:Array Bool}(c:QH ops listed){i f j:Nat}(h:Vm ops f j i=true)(hj:j∈m .any ops listed):listed.getD i false=true:=by
 obtain⟨_,o,ho,Jc⟩:=mem_ready.1 hj;unfold Vm at h;obtain⟨y,hy,he⟩:=aw.1 h;obtain rfl:=Y he;refine GF c _ _ (GD (L:=fun x=>listed.getD x false=true) fun o' Me e he hb=>?_) _ hy;rw[ho]at Me;obtain rfl:=Option.some.inj Me;exact Jc e he hb
theorem Iq{S:Hp->Prop}{W:List Nat}{i:Nat}{oi:Oper}{v:O}(hi:ops[i]? = A oi)(AE:∀(j:Nat) (o:Oper) cs b,ops[j]? = A o->o.op ≠ .select cs b)(hW:∀j∈W,∃f,Vm ops f j i=true):
  ∀(k:Nat) (listed:Array Bool) (F:Env) (h:Hp),QH ops listed ->
   (∀j oj,ops[j]? = A oj->j≠i->listed.getD j true=false->(∀e∈oj.after,U .any e=true->e.on≠i)->oi.apart ops oj=true) ->
   i∈m .any ops listed->Wj P T ops S oi v F->S h ->
   La P T ops S W N k (listed.setIfInBounds i true) (YB F oi.dst v) h->La P T ops S W N (k+1) listed F h:=by
 intro k
 induction k with
 | zero=>
  intro listed F h _ _ hr hy hS H;refine⟨fun h=>(by rw[h]at hr;cases hr),fun j hj=>?_⟩;by_cases Sa:j=i
  .subst Sa;exact hy.opI hi hS ⟨.inr hS,H⟩
  .have:=ready_mono hj Sa;rw[H.1]at this
   cases this
 | succ k ih=>
  intro listed F h JS Il hr hy hS H;refine⟨fun h=>(by rw[h]at hr;cases hr),fun j hj=>?_⟩;by_cases Sa:j=i
  .subst Sa;exact hy.opI hi hS ⟨.inr hS,H⟩
  .have h1:=H.2 j (ready_mono hj Sa);obtain⟨AF,oj,nW,Jc⟩:=mem_ready.1 hj;have Cx:∀e∈oj.after,U .any e=true->e.on≠i:=fun e he hb heq=>by
    have h1:=Jc e he hb;have h0:=(mem_ready.1 hr).1;rw[heq]at h1;rcases Nat.lt_or_ge i listed.size with h'|h'
    .simp[h']at h0 h1;rw[h0]at h1;cases h1
    .simp[J h']at h1
   have hjW:j ∉ W:=fun hjw=>by
    obtain⟨f,hf⟩:=hW j hjw;have h1:=Ip JS hf hj;have h0:=(mem_ready.1 hr).1;rcases Nat.lt_or_ge i listed.size with h'|h'
    .simp[h']at h0 h1;rw[h0]at h1;cases h1
    .simp[J h']at h1
   have h2:=Ge nW (Il j oj nW Sa AF Cx) (fun cs b=>AE i oi cs b hi) (fun cs b=>AE j oj cs b nW) hy h1;have Gg:∀k ok,ops[k]? = A ok->k≠i->(listed.setIfInBounds j true).getD k true=false ->
     (∀e∈ok.after,U .any e=true->e.on≠i)->oi.apart ops ok=true:=fun k ok hk hki hun AG=>by
    refine Il k ok hk hki ?_ AG;by_cases kZ:j=k
    .subst kZ;exact AF
    .rw[getD_set_ne true kZ]at hun;exact hun
   refine J8 (fun F' h' h3=>?_) h2;have hS':S h':=h3.2.1.resolve_left hjW;refine⟨.inr hS',ih (listed.setIfInBounds j true) F' h' (JS.set hj) Gg (ready_mono hr (Ne.symm Sa)) h3.1 hS' ?_⟩;rw[Array.setIfInBounds_comm _ _ Sa];exact h3.2.2
inductive Nr where
 | nil
 | q (i:Nat) (t:Nr)
 | s (i:Nat) (t:Nr)
 | w (i:Nat) (t:Nr)
 | or (i:Nat) (t:Nr) (r:Nr)
def Nr.alts:Nr->List Nat
 | .s i _=>[i]
 | .w i _=>[i]
 | .or i _ r=>i :: r.alts
 | _=>[]
def Nr.Lb:Nr->Bool
 | .q _ _=>true
 | .s _ t=>t.Lb
 | .or _ t r=>t.Lb||r.Lb
 | _=>false
def Nr.ok(ops:Array Oper)(W:List Nat):Nr->Nat->Array Bool->Bool->Bool
 | .nil,n,listed,_=>a2 n 0&&(m .any ops listed).isEmpty
 | .q _ _,0,_,_=>false
 | .q i t,n+1,listed,_=>((m .any ops listed).contains i&&(a3 .any ops listed i&&W.all fun j=>Vm ops lK j i))&&t.ok ops W n (listed.setIfInBounds i true) true
 | .s _ _,0,_,_=>false
 | .s i t,n+1,listed,b=>(!b||(m .any ops listed == [i]))&&t.ok ops W n (listed.setIfInBounds i true) true
 | .w _ _,0,_,_=>false
 | .w i t,n+1,listed,b=>((!b||(m .any ops listed == [i]))&&(W.contains i&&!t.Lb))&&t.ok ops W n (listed.setIfInBounds i true) true
 | .or _ _ _,0,_,_=>false
 | .or i t r,n+1,listed,b=>(!b||(m .any ops listed == i :: r.alts))&&(t.ok ops W n (listed.setIfInBounds i true) true&&r.ok ops W (n+1) listed false)
def lL(P:G)(T:Q)(ops:Array Oper)(S:Hp->Prop)(N:Env->Hp->Prop):Nr->Env->Hp->Prop
 | .nil,F,h=>N F h
 | .q i t,F,h=>match ops[i]? with
  | some o=>if YI ops o F then ∃v,(∀h',S h'->Ew P T o (fun v' Kg=>v'=v/\Kg=h') F h')/\lL P T ops S N t (YB F o.dst v) h else lL P T ops S N t (YB F o.dst undef) h
  | none=>False
 | .s i t,F,h=>Ut P T ops i (fun F' h'=>S h'/\lL P T ops S N t F' h') F h
 | .w i t,F,h=>Ut P T ops i (fun F' h'=>lL P T ops S N t F' h') F h
 | .or i t r,F,h=>Ut P T ops i (fun F' h'=>S h'/\lL P T ops S N t F' h') F h/\lL P T ops S N r F h
theorem CZ{S:Hp->Prop}{W:List Nat}(hs:a0 ops=true):∀(t:Nr),
  (∀(k:Nat) (listed:Array Bool) (F:Env) (h:Hp),QH ops listed->t.ok ops W k listed true=true->(t.Lb=true->S h)->lL P T ops S N t F h->La P T ops S W N k listed F h) /\
  (∀(k:Nat) (listed:Array Bool) (F:Env) (h:Hp),QH ops listed->t.ok ops W (k+1) listed false=true->lL P T ops S N t F h->∀j∈t.alts,j∈m .any ops listed->Ut P T ops j (fun F' h'=>(j∈W\/S h')/\La P T ops S W N k (listed.setIfInBounds j true) F' h') F h):=by
 intro t
 induction t with
 | nil=>
  refine⟨fun k listed F h JS hB hS H=>?_,fun k listed F h _ _ _ j hj=>by cases hj⟩;simp only[Nr.ok,u,List.isEmpty_iff]at hB;obtain⟨h1,h2⟩:=hB;obtain rfl:=Y h1;exact⟨h2,H⟩
 | q i t ih=>
  refine⟨fun k listed F h JS hB hS H=>?_,fun k listed F h _ _ _ j hj=>by cases hj⟩;have hS:=hS rfl
  cases k with
  | zero=>simp[Nr.ok]at hB
  | succ k=>
   simp only[Nr.ok,u]at hB;obtain⟨⟨h1,h2,hw⟩,h3⟩:=hB;have NX:i∈m .any ops listed:=by simpa using h1
   obtain⟨_,o,ho,_⟩:=mem_ready.1 NX;have hW:∀j∈W,∃f,Vm ops f j i=true:=fun j hj=>⟨lK,List.all_eq_true.1 hw j hj⟩
   simp only[lL,ho]at H;split at H
   .rename_i Gd;obtain⟨v,hv,H⟩:=H;exact Iq ho (al hs) hW k listed F h JS (aU ho h2) NX (.inl ⟨Gd,hv⟩) hS (ih.1 k _ _ _ (JS.set NX) h3 (fun _=>hS) H)
   .rename_i Gd;exact Iq ho (al hs) hW k listed F h JS (aU ho h2) NX (.inr ⟨by simpa using Gd,rfl⟩) hS (ih.1 k _ _ _ (JS.set NX) h3 (fun _=>hS) H)
 | s i t ih=>
  have second:∀(k:Nat) (listed:Array Bool) (F:Env) (h:Hp),QH ops listed->i∈m .any ops listed->t.ok ops W k (listed.setIfInBounds i true) true=true->lL P T ops S N (.s i t) F h->Ut P T ops i (fun F' h'=>(i∈W\/S h')/\La P T ops S W N k (listed.setIfInBounds i true) F' h') F h:=by
   intro k listed F h JS NX hB H;exact J8 (fun F' h' q=>⟨.inr q.1,ih.1 k _ _ _ (JS.set NX) hB (fun _=>q.1) q.2⟩) H
  refine⟨fun k listed F h JS hB hS H=>?_,fun k listed F h JS hB H j hj hr=>?_⟩
  .cases k with
   | zero=>simp[Nr.ok]at hB
   | succ k=>
    simp only[Nr.ok,u,am,ao,beq_iff_eq]at hB;refine⟨fun h0=>(by rw[hB.1]at h0;cases h0),fun j hj=>?_⟩;have hr:=hj;rw[hB.1]at hj;have hj:j=i:=by simpa using hj
    subst hj;exact second k listed F h JS hr hB.2 H
  .simp only[Nr.ok,u]at hB;have hj:j=i:=by simpa [Nr.alts] using hj
   subst hj;exact second k listed F h JS hr hB.2 H
 | w i t ih=>
  have second:∀(k:Nat) (listed:Array Bool) (F:Env) (h:Hp),QH ops listed->i∈m .any ops listed->i∈W->t.Lb=false->t.ok ops W k (listed.setIfInBounds i true) true=true->lL P T ops S N (.w i t) F h->Ut P T ops i (fun F' h'=>(i∈W\/S h')/\La P T ops S W N k (listed.setIfInBounds i true) F' h') F h:=by
   intro k listed F h JS NX hw hq hB H;exact J8 (fun F' h' q=>⟨.inl hw,ih.1 k _ _ _ (JS.set NX) hB (fun e=>by rw[hq]at e;cases e) q⟩) H
  refine⟨fun k listed F h JS hB hS H=>?_,fun k listed F h JS hB H j hj hr=>?_⟩
  .cases k with
   | zero=>simp[Nr.ok]at hB
   | succ k=>
    simp only[Nr.ok,u,am,ao,beq_iff_eq,aq]at hB;obtain⟨⟨h1,h2,h3⟩,h4⟩:=hB;refine⟨fun h0=>(by rw[h1]at h0;cases h0),fun j hj=>?_⟩;have hr:=hj;rw[h1]at hj;have hj:j=i:=by simpa using hj
    subst hj;exact second k listed F h JS hr (by simpa using h2) h3 h4 H
  .simp only[Nr.ok,u,aq]at hB;obtain⟨⟨h1,h2,h3⟩,h4⟩:=hB;have hj:j=i:=by simpa [Nr.alts] using hj
   subst hj;exact second k listed F h JS hr (by simpa using h2) h3 h4 H
 | or i t r iht ihr=>
  have second:∀(k:Nat) (listed:Array Bool) (F:Env) (h:Hp),QH ops listed->t.ok ops W k (listed.setIfInBounds i true) true=true->r.ok ops W (k+1) listed false=true->lL P T ops S N (.or i t r) F h->∀j∈(Nr.or i t r).alts,j∈m .any ops listed->Ut P T ops j (fun F' h'=>(j∈W\/S h')/\La P T ops S W N k (listed.setIfInBounds j true) F' h') F h:=by
   intro k listed F h JS hB hR H j hj hr;rcases List.mem_cons.1 hj with hj|hj
   .subst hj;exact J8 (fun F' h' q=>⟨.inr q.1,iht.1 k _ _ _ (JS.set hr) hB (fun _=>q.1) q.2⟩) H.1
   .exact ihr.2 k listed F h JS hR H.2 j hj hr
  refine⟨fun k listed F h JS hB hS H=>?_,fun k listed F h JS hB H j hj hr=>?_⟩
  .cases k with
   | zero=>simp[Nr.ok]at hB
   | succ k=>
    simp only[Nr.ok,u,am,ao,beq_iff_eq]at hB;refine⟨fun h0=>(by rw[hB.1]at h0;cases h0),fun j hj=>?_⟩;have hr:=hj;rw[hB.1]at hj;exact second k listed F h JS hB.2.1 hB.2.2 H j hj hr
  .simp only[Nr.ok,u]at hB;exact second k listed F h JS hB.2.1 hB.2.2 H j hj hr
def wKs(B:Nat)(h0:Hp)(K:Env->Hp->Prop)(F:Env)(d:Option Tmp):O->Hp->Prop:=fun v h'=>Zj B h0 h'/\K (YB F d v) h'
def wKw(K:Env->Hp->Prop)(F:Env)(d:Option Tmp):O->Hp->Prop:=fun v h'=>K (YB F d v) h'
def wQg(P:G)(T:Q)(B:Nat)(h0:Hp)(K:Env->Hp->Prop)(F:Env)(h:Hp)(d:Option Tmp)(op:Op)(ty:ab)(v:O)(b:Bool):Prop:=JL v b (S4 P T B h0 op ty (fun v=>K (YB F d v) h) F) (K (YB F d undef) h)
def wQ(P:G)(T:Q)(ops:List Oper)(B:Nat)(h0:Hp)(K:Env->Hp->Prop)(F:Env)(h:Hp)(o:Option Oper):Prop:=
 match o with
 | some ⟨d,op,ty,_,_,Z⟩=>S4 P T B h0 op ty (fun v=>K (YB F d v) h) F
 | some ⟨d,op,ty,_,_,A (j,b)⟩=>wQg P T B h0 K F h d op ty (WC ops F j) b
 | none=>False
def wSg(P:G)(T:Q)(B:Nat)(h0:Hp)(K:Env->Hp->Prop)(F:Env)(h:Hp)(d:Option Tmp)(op:Op)(ty:ab)(v:O)(b:Bool):Prop:=JL v b (Sb P T op ty (wKs B h0 K F d) F h) (Zj B h0 h/\K (YB F d undef) h)
def wS(P:G)(T:Q)(ops:List Oper)(B:Nat)(h0:Hp)(K:Env->Hp->Prop)(F:Env)(h:Hp)(o:Option Oper):Prop:=
 match o with
 | some ⟨d,op,ty,_,_,Z⟩=>Sb P T op ty (wKs B h0 K F d) F h
 | some ⟨d,op,ty,_,_,A (j,b)⟩=>wSg P T B h0 K F h d op ty (WC ops F j) b
 | none=>False
def wWg(P:G)(T:Q)(K:Env->Hp->Prop)(F:Env)(h:Hp)(d:Option Tmp)(op:Op)(ty:ab)(v:O)(b:Bool):Prop:=JL v b (Sb P T op ty (wKw K F d) F h) (K (YB F d undef) h)
def wW(P:G)(T:Q)(ops:List Oper)(K:Env->Hp->Prop)(F:Env)(h:Hp)(o:Option Oper):Prop:=
 match o with
 | some ⟨d,op,ty,_,_,Z⟩=>Sb P T op ty (wKw K F d) F h
 | some ⟨d,op,ty,_,_,A (j,b)⟩=>wWg P T K F h d op ty (WC ops F j) b
 | none=>False
def Av(P:G)(T:Q)(ops:List Oper)(B:Nat)(h0:Hp)(N:Env->Hp->Prop):Nr->Env->Hp->Prop
 | .nil,F,h=>N F h
 | .q i t,F,h=>wQ P T ops B h0 (Av P T ops B h0 N t) F h (nth ops i)
 | .s i t,F,h=>wS P T ops B h0 (Av P T ops B h0 N t) F h (nth ops i)
 | .w i t,F,h=>wW P T ops (Av P T ops B h0 N t) F h (nth ops i)
 | .or i t r,F,h=>wS P T ops B h0 (Av P T ops B h0 N t) F h (nth ops i)/\Av P T ops B h0 N r F h
theorem Lc{ops:List Oper}{B:Nat}{h0:Hp}{i:Nat}{K K':Env->Hp->Prop}(hk:∀F h,K F h->K' F h)(H:wS P T ops B h0 K F h (nth ops i)):Ut P T ops.toArray i (fun F' h'=>Zj B h0 h'/\K' F' h') F h:=by
 refine gX (K:=K) hk ?_
 cases ho:nth ops i with
 | none=>rw[ho]at H;exact H.elim
 | some o=>
  rw[ho]at H;obtain⟨d,op,ty,pos,Vi,g⟩:=o
  cases g with
  | none=>exact H
  | some jb=>exact H
theorem ak{ops:List Oper}{i:Nat}{K K':Env->Hp->Prop}(hk:∀F h,K F h->K' F h)(H:wW P T ops K F h (nth ops i)):Ut P T ops.toArray i K' F h:=by
 unfold Ut
 cases ho:nth ops i with
 | none=>rw[ho]at H;exact H.elim
 | some o=>
  rw[Tt ho];rw[ho]at H;obtain⟨d,op,ty,pos,Vi,g⟩:=o
  cases g with
  | none=>
   show (if YI ops.toArray _ F=true then _ else _);rw[if_pos (by rfl)];exact Uv (fun v h' q=>hk _ _ q) H
  | some jb=>
   obtain⟨j,b⟩:=jb;show (if YI ops.toArray _ F=true then _ else _);rcases XK ops F d op pos Vi j b H with⟨hw,H⟩|⟨hw,H⟩
   .rw[if_pos hw];exact Uv (fun v h' q=>hk _ _ q) H
   .rw[hw,if_neg uK];exact hk _ _ H
theorem gY{ops:List Oper}{B:Nat}{h0:Hp}{N:Env->Hp->Prop}:∀(t:Nr) (F:Env) (h:Hp),Av P T ops B h0 N t F h->lL P T ops.toArray (fun h'=>Zj B h0 h') N t F h:=by
 intro t
 induction t with
 | nil=>intro F h H;exact H
 | q i t ih=>
  intro F h H;simp only[Av]at H;simp only[lL]
  cases ho:nth ops i with
  | none=>rw[ho]at H;exact H.elim
  | some o=>
   rw[Tt ho];rw[ho]at H;obtain⟨d,op,ty,pos,Vi,g⟩:=o
   cases g with
   | none=>
    show (if YI ops.toArray _ F=true then _ else _);rw[if_pos (by rfl)];obtain⟨v,hv,H⟩:=Td H;exact⟨v,fun h' hs=>QG (hv h' hs),ih _ _ H⟩
   | some jb=>
    obtain⟨j,b⟩:=jb;show (if YI ops.toArray _ F=true then _ else _);rcases XK ops F d op pos Vi j b H with⟨hw,H⟩|⟨hw,H⟩
    .rw[if_pos hw];obtain⟨v,hv,H⟩:=Td H;exact⟨v,fun h' hs=>QG (hv h' hs),ih _ _ H⟩
    .rw[hw,if_neg uK];exact ih _ _ H
 | s i t ih=>intro F h H;exact Lc ih H
 | w i t ih=>intro F h H;exact ak ih H
 | or i t r iht ihr=>intro F h H;exact⟨Lc iht H.1,ihr _ _ H.2⟩
theorem Ir(ops:Array Oper)(n:Nat):QH ops (a1 n false):=by
 intro j oj _ hl;rw[D]at hl;by_cases hj:j<n
 .simp[hj]at hl
 .rw[J Ig]at hl;cases hl
def Zkk(n:Nat)(ops:Array Oper)(W:List Nat)(t:Nr):Bool:=Ii n ops&&(a0 ops&&t.ok ops W ops.size (a1 ops.size false) true)
theorem VS.w{id:Nat}{ops:List Oper}(B:Nat)(W:List Nat)(t:Nr)(hm:P.follows .mixedOrders=true)(Uj:Zkk n ops.toArray W t=true)(H:Av P T ops B h N t F h):VS P n T (.region id ops.toArray true) N X R F h:=by
 intro a w h1 h2 h3 h4;simp only[Zkk,u]at Uj;obtain⟨k1,k2,k3⟩:=Uj;refine wp_region_any hm ?_;refine QF k1 _ _ F h (EJ _ _ _ _ ((CZ (S:=fun h'=>Zj B h h') k2 t).1 _ _ F h (Ir _ _) k3 (fun _=>Zj.refl _ _) (gY t F h H))) a _ h1 h2 h3 ⟨h4.heap,h4.tape,h4.os,h4.output⟩
variable {ops:List Oper} {B:Nat} {h0:Hp} {t r:Nr} {i j:Nat} {d:Option Tmp} {op:Op} {ty:ab} {pos:String} {Vi:Array Edge} {b c:Bool} {v:O} {K:Env->Hp->Prop}
def wKq(K:Env->Hp->Prop)(F:Env)(d:Option Tmp)(h:Hp):O->Prop:=fun v=>K (YB F d v) h
@[go_sem] theorem ZnW:Av P T ops B h0 N .nil F h=N F h:=rfl
@[go_sem] theorem Zw8:Av P T ops B h0 N (.q i t) F h=wQ P T ops B h0 (Av P T ops B h0 N t) F h (nth ops i):=rfl
@[go_sem] theorem Zw9:Av P T ops B h0 N (.s i t) F h=wS P T ops B h0 (Av P T ops B h0 N t) F h (nth ops i):=rfl
@[go_sem] theorem Zxa:Av P T ops B h0 N (.w i t) F h=wW P T ops (Av P T ops B h0 N t) F h (nth ops i):=rfl
@[go_sem] theorem Zq2:Av P T ops B h0 N (.or i t r) F h=(wS P T ops B h0 (Av P T ops B h0 N t) F h (nth ops i)/\Av P T ops B h0 N r F h):=rfl
@[go_sem] theorem Zkm:wQ P T ops B h0 K F h (A ⟨d,op,ty,pos,Vi,Z⟩)=S4 P T B h0 op ty (wKq K F d h) F:=rfl
@[go_sem] theorem Zkn:wQ P T ops B h0 K F h (A ⟨d,op,ty,pos,Vi,A (j,b)⟩)=wQg P T B h0 K F h d op ty (WC ops F j) b:=rfl
@[go_sem] theorem Zko:wS P T ops B h0 K F h (A ⟨d,op,ty,pos,Vi,Z⟩)=Sb P T op ty (wKs B h0 K F d) F h:=rfl
@[go_sem] theorem Zkp:wS P T ops B h0 K F h (A ⟨d,op,ty,pos,Vi,A (j,b)⟩)=wSg P T B h0 K F h d op ty (WC ops F j) b:=rfl
@[go_sem] theorem Zkq:wW P T ops K F h (A ⟨d,op,ty,pos,Vi,Z⟩)=Sb P T op ty (wKw K F d) F h:=rfl
@[go_sem] theorem Zkr:wW P T ops K F h (A ⟨d,op,ty,pos,Vi,A (j,b)⟩)=wWg P T K F h d op ty (WC ops F j) b:=rfl
@[go_sem] theorem Zks:wQg P T B h0 K F h d op ty (.bool c) b=if c=b then S4 P T B h0 op ty (wKq K F d h) F else K (YB F d undef) h:=rfl
@[go_sem] theorem Zkt:wSg P T B h0 K F h d op ty (.bool c) b=if c=b then Sb P T op ty (wKs B h0 K F d) F h else (Zj B h0 h/\K (YB F d undef) h):=rfl
@[go_sem] theorem Zku:wWg P T K F h d op ty (.bool c) b=if c=b then Sb P T op ty (wKw K F d) F h else K (YB F d undef) h:=rfl
@[go_sem] theorem ZnX:wKq K F d h v=K (YB F d v) h:=rfl
@[go_sem] theorem ZnY:wKs B h0 K F d v h=(Zj B h0 h/\K (YB F d v) h):=rfl
@[go_sem] theorem ZnZ:wKw K F d v h=K (YB F d v) h:=rfl
end
end Go.V
