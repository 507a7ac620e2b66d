/- Part W11. -/
import Derived.Test.YtdpjmhgbmhjniaaGreatDoorW8
open List renaming any_eq_true→ay
open Nat renaming eq_of_beq_eq_true→Y,beq→a1
open Option renaming some→A,none→Z
open Array renaming getD_eq_getD_getElem?→D,getElem?_eq_none→J,getElem?_setIfInBounds→aa,replicate→a0
open Bool renaming and_eq_true→u,not_true→ao,false_or→av,not_eq_true'→aw
open Go.Region renaming ready→m,binds→U,noSelect_spec→am,free_spec→az,noSelect→aI,free→a2
open Go renaming Program→G,Value→O,World→Q,TypeId→al
namespace Go.V
set_option linter.all false
variable{ops:Array Oper}
inductive Tr where
 | nil
 | q (i:Nat) (t:Tr)
 | s (i:Nat) (t:Tr)
 | or (i:Nat) (t:Tr) (r:Tr)
def Tr.alts:Tr->List Nat
 | .s i _=>[i]
 | .or i _ r=>i :: r.alts
 | _=>[]
def Tr.ok(ops:Array Oper):Tr->Nat->Array Bool->Bool->Bool
 | .nil,n,listed,_=>a1 n 0&&(m .any ops listed).isEmpty
 | .q _ _,0,_,_=>false
 | .q i t,n+1,listed,_=>((m .any ops listed).contains i&&a2 .any ops listed i)&&t.ok ops n (listed.setIfInBounds i true) true
 | .s _ _,0,_,_=>false
 | .s i t,n+1,listed,b=>(!b||(m .any ops listed == [i]))&&t.ok ops n (listed.setIfInBounds i true) true
 | .or _ _ _,0,_,_=>false
 | .or i t r,n+1,listed,b=>(!b||(m .any ops listed == i :: r.alts))&&(t.ok ops n (listed.setIfInBounds i true) true&&r.ok ops (n+1) listed false)
section
variable {P:G} {n:Nat} {T:Q} {N:Env->Hp->Prop} {X:Nat->Env->Hp->Prop} {R:Env->Hp->Prop} {F:Env} {h:Hp}
def mF(P:G)(T:Q)(ops:List Oper)(B:Nat)(h0:Hp)(N:Env->Hp->Prop):Tr->Env->Hp->Prop
 | .nil,F,h=>N F h
 | .q i t,F,h=>match nth ops i with
  | some ⟨d,op,ty,_,_,Z⟩=>VY P T B h0 op ty (fun v=>mF P T ops B h0 N t (Z5 F d v) h) F
  | some ⟨d,op,ty,_,_,A (j,b)⟩=>XX (Ug ops F j) b (VY P T B h0 op ty (fun v=>mF P T ops B h0 N t (Z5 F d v) h) F) (mF P T ops B h0 N t (Z5 F d undef) h)
  | none=>False
 | .s i t,F,h=>match nth ops i with
  | some ⟨d,op,ty,_,_,Z⟩=>Vc P T op ty (fun v h'=>Zf B h0 h'/\mF P T ops B h0 N t (Z5 F d v) h') F h
  | some ⟨d,op,ty,_,_,A (j,b)⟩=>XX (Ug ops F j) b (Vc P T op ty (fun v h'=>Zf B h0 h'/\mF P T ops B h0 N t (Z5 F d v) h') F h) (Zf B h0 h/\mF P T ops B h0 N t (Z5 F d undef) h)
  | none=>False
 | .or i t r,F,h=>(match nth ops i with
  | some ⟨d,op,ty,_,_,Z⟩=>Vc P T op ty (fun v h'=>Zf B h0 h'/\mF P T ops B h0 N t (Z5 F d v) h') F h
  | some ⟨d,op,ty,_,_,A (j,b)⟩=>XX (Ug ops F j) b (Vc P T op ty (fun v h'=>Zf B h0 h'/\mF P T ops B h0 N t (Z5 F d v) h') F h) (Zf B h0 h/\mF P T ops B h0 N t (Z5 F d undef) h)
  | none=>False)/\mF P T ops B h0 N r F h
theorem Wv{ops:List Oper}{i:Nat}{o:Oper}(h:nth ops i=A o):ops.toArray[i]? = A o:=by
 rw[List.getElem?_toArray,<-YE];exact h
theorem aG{ops:List Oper}{B:Nat}{h0:Hp}{i:Nat}{K K':Env->Hp->Prop}(hk:∀F h,K F h->K' F h)(H:match nth ops i with
    | some ⟨d,op,ty,_,_,Z⟩=>Vc P T op ty (fun v h'=>Zf B h0 h'/\K (Z5 F d v) h') F h
    | some ⟨d,op,ty,_,_,A (j,b)⟩=>XX (Ug ops F j) b (Vc P T op ty (fun v h'=>Zf B h0 h'/\K (Z5 F d v) h') F h) (Zf B h0 h/\K (Z5 F d undef) h)
    | none=>False):Qp P T ops.toArray i (fun F' h'=>Zf B h0 h'/\K' F' h') F h:=by
 unfold Qp
 cases ho:nth ops i with
 | none=>rw[ho]at H;exact H.elim
 | some o=>
  rw[Wv ho];rw[ho]at H;obtain⟨d,op,ty,pos,UH,g⟩:=o
  cases g with
  | none=>
   show (if Yo ops.toArray _ F=true then _ else _);rw[if_pos (by rfl)];exact Qr (fun v h' q=>⟨q.1,hk _ _ q.2⟩) H
  | some jb=>
   obtain⟨j,b⟩:=jb;show (if Yo ops.toArray _ F=true then _ else _);rcases Xb ops F d op pos UH j b H with⟨hw,H⟩|⟨hw,H⟩
   .rw[if_pos hw];exact Qr (fun v h' q=>⟨q.1,hk _ _ q.2⟩) H
   .rw[hw,if_neg Dq];exact⟨H.1,hk _ _ H.2⟩
def tKs(P:G)(T:Q)(ops:List Oper)(B:Nat)(h0:Hp)(N:Env->Hp->Prop)(t:Tr)(F:Env)(d:Option Tmp):O->Hp->Prop:=fun v h'=>Zf B h0 h'/\mF P T ops B h0 N t (Z5 F d v) h'
def tS(P:G)(T:Q)(ops:List Oper)(B:Nat)(h0:Hp)(N:Env->Hp->Prop)(t:Tr)(F:Env)(h:Hp)(o:Option Oper):Prop:=
 match o with
 | some ⟨d,op,ty,_,_,Z⟩=>Vc P T op ty (tKs P T ops B h0 N t F d) F h
 | some ⟨d,op,ty,_,_,A (j,b)⟩=>XX (Ug ops F j) b (Vc P T op ty (tKs P T ops B h0 N t F d) F h) (Zf B h0 h/\mF P T ops B h0 N t (Z5 F d undef) h)
 | none=>False
variable {ops:List Oper} {B:Nat} {h0:Hp} {t r:Tr} {i j:Nat} {d:Option Tmp} {op:Op} {ty:al} {pos:String} {UH:Array Edge} {b c:Bool} {v:O}
end
section
variable {B:Nat} {h h':Hp} {o:Obj} {b:Nat}
@[go_sem] theorem ZeO:Zf B h h=True:=eq_true (Zf.refl _ _)
@[go_sem] theorem ZfZ(a:Zf h.size h h'):Zf h.size h (h'.push o)=True:=eq_true (a.add _)
@[go_sem] theorem Zf0(a:Zf B h h')(hb:B<=b):Zf B h (h'.setIfInBounds b o)=True:=eq_true (a.Zj hb _)
attribute [go_sem] Nat.le_add_right Nat.le_refl List.cons_append List.nil_append
@[go_sem] theorem Zf1(z:List O):Jl 1 z=z:=by simp[Jl]
@[go_sem] theorem Zf2(z:List O):Jl 2 z=z++z:=by simp[Jl]
end
theorem JD.ZaW{α:Type}{enc:α->List O}{n B:Nat}{E:al}{h:Hp}{v:O}{l:List α}(QZ:∀x,(enc x).length=n)(hn:n≠0)(s:JD B E enc n h v l):
  ∃p cap,v=.slice p (List.length l) cap/\(l≠[]->∃b o,p=A ⟨b,o,Z⟩/\B<=b/\b<h.size/\∀i (hi:i<(List.length l)),Xd h b (o+i*n) (enc l[i])):=by
 obtain⟨p,cap,hv,YR⟩:=s.ts.open QZ hn;refine⟨p,cap,hv,fun Ys=>?_⟩;obtain⟨b,o,hp,hb,hc⟩:=YR Ys;refine⟨b,o,hp,?_,hb,hc⟩;rcases s.Zy with⟨_,h0,_⟩|⟨b',OI,Zx,hB,DT,_⟩
 .exact absurd (List.eq_nil_of_length_eq_zero h0) Ys
 .rw[hv,hp]at DT;simp only[Value.slice.injEq,Option.some.injEq,Addr.mk.injEq]at DT;obtain⟨⟨rfl,_⟩,_⟩:=DT;exact hB
theorem JD.one{α:Type}{enc:α->List O}{n B:Nat}{E:al}{h:Hp}(x:α)(QZ:∀x,(enc x).length=n)(hB:B<=h.size):JD B E enc n (h.push (.cells (enc x).toArray E)) (.slice (A ⟨h.size,0,Z⟩) 1 1) [x]:=by
 have:=JD.made (h:=h) (E:=E) (B:=B) QZ [x] hB
 simpa [ZK] using this
section
variable {P:G} {n:Nat} {T:Q} {N:Env->Hp->Prop} {X:Nat->Env->Hp->Prop} {R:Env->Hp->Prop} {F:Env} {h:Hp}
def OQ(P:G)(T:Q)(ops:Array Oper)(S:Hp->Prop)(W:List Nat)(N:Env->Hp->Prop):Nat->Array Bool->Env->Hp->Prop
 | 0,listed,F,h=>m .any ops listed=[]/\N F h
 | k+1,listed,F,h=>(m .any ops listed=[]->N F h) /\
   ∀i∈m .any ops listed,Qp P T ops i (fun F' h'=>(i∈W\/S h')/\OQ P T ops S W N k (listed.setIfInBounds i true) F' h') F h
theorem Py{S:Hp->Prop}{W:List Nat}:∀(k:Nat) (listed:Array Bool) (F:Env) (h:Hp),OQ P T ops S W N k listed F h->AF P T ops (fun _=>True) N k listed F h:=by
 intro k
 induction k with
 | zero=>intro listed F h H;exact H
 | succ k ih=>intro listed F h H;exact⟨H.1,fun i hi=>Jf (fun F' h' q=>⟨trivial,ih _ _ _ q.2⟩) (H.2 i hi)⟩
def JM(ops:Array Oper)(listed:Array Bool):Prop:=
 ∀(j:Nat) oj,ops[j]? = A oj->listed.getD j false=true->∀e∈oj.after,U .any e=true->listed.getD e.on false=true
theorem getD_set_true{l:Array Bool}{j k:Nat}(h:l.getD k false=true):(l.setIfInBounds j true).getD k false=true:=by
 rw[D]at h ⊢;rw[aa];by_cases eE:j=k
 .subst eE;rw[if_pos rfl];by_cases ZL:j<l.size
  .rw[if_pos ZL];rfl
  .rw[J gX]at h;cases h
 .rw[if_neg eE];exact h
theorem JM.set{listed:Array Bool}(c:JM ops listed){j:Nat}(hj:j∈m .any ops listed):JM ops (listed.setIfInBounds j true):=by
 intro k ok XM hl e he hb;obtain⟨_,oj,hO,Xc⟩:=mem_ready.1 hj;by_cases eE:j=k
 .subst eE;rw[hO]at XM;obtain rfl:=Option.some.inj XM;exact getD_set_true (Xc e he hb)
 .refine getD_set_true (c k ok XM ?_ e he hb);rw[D,aa,if_neg eE]at hl;rw[D];exact hl
def fe:Nat:=16
def ons(ops:Array Oper)(k:Nat):List Nat:=match ops[k]? with|some o=>(o.after.toList.filter fun e=>U .any e).map fun e=>e.on|none=>[]
def F9(ops:Array Oper):Nat->List Nat->List Nat
 | 0,M=>M
 | k+1,M=>F9 ops k (if M.any (a1 k)=true then ons ops k++M else M)
def UN(ops:Array Oper)(f j i:Nat):Bool:=(F9 ops j (ons ops j)).any (a1 i)
theorem KW{k:Nat}{L:Nat->Prop}(h:∀o,ops[k]? = A o->∀e∈o.after,U .any e=true->L e.on):∀x∈ons ops k,L x:=by
 intro x hx;unfold ons at hx
 cases ho:ops[k]? with
 | none=>rw[ho]at hx;cases hx
 | some o=>
  rw[ho]at hx;simp only[List.mem_map,List.mem_filter]at hx;obtain⟨e,⟨he,hb⟩,rfl⟩:=hx;exact h o ho e (by simpa using he) hb
theorem KX{listed:Array Bool}(c:JM ops listed):∀(k:Nat) (M:List Nat),(∀x∈M,listed.getD x false=true)->∀x∈F9 ops k M,listed.getD x false=true:=by
 intro k
 induction k with
 | zero=>intro M hM;exact hM
 | succ k ih=>
  intro M hM;refine ih _ ?_;split
  .rename_i hk;obtain⟨y,hy,he⟩:=ay.1 hk;obtain rfl:=Y he;intro x hx;rcases List.mem_append.1 hx with hx|hx
   .exact KW (L:=fun x=>listed.getD x false=true) (fun o ho e he hb=>c _ o ho (hM _ hy) e he hb) x hx
   .exact hM x hx
  .exact hM
theorem MS{listed:Array Bool}(c:JM ops listed){i f j:Nat}(h:UN ops f j i=true)(hj:j∈m .any ops listed):listed.getD i false=true:=by
 obtain⟨_,o,ho,Xc⟩:=mem_ready.1 hj;unfold UN at h;obtain⟨y,hy,he⟩:=ay.1 h;obtain rfl:=Y he;refine KX c _ _ (KW (L:=fun x=>listed.getD x false=true) fun o' PW e he hb=>?_) _ hy;rw[ho]at PW;obtain rfl:=Option.some.inj PW;exact Xc e he hb
theorem MT{S:Hp->Prop}{W:List Nat}{i:Nat}{oi:Oper}{v:O}(hi:ops[i]? = A oi)(Dr:∀(j:Nat) (o:Oper) cs b,ops[j]? = A o->o.op ≠ .select cs b)(hW:∀j∈W,∃f,UN ops f j i=true):
  ∀(k:Nat) (listed:Array Bool) (F:Env) (h:Hp),JM ops listed ->
   (∀j oj,ops[j]? = A oj->j≠i->listed.getD j true=false->(∀e∈oj.after,U .any e=true->e.on≠i)->oi.apart ops oj=true) ->
   i∈m .any ops listed->QY P T ops S oi v F->S h ->
   OQ P T ops S W N k (listed.setIfInBounds i true) (Z5 F oi.dst v) h->OQ P T ops S W N (k+1) listed F h:=by
 intro k
 induction k with
 | zero=>
  intro listed F h _ _ hr hy hS H;refine⟨fun h=>(by rw[h]at hr;cases hr),fun j hj=>?_⟩;by_cases Vb:j=i
  .subst Vb;exact hy.opI hi hS ⟨.inr hS,H⟩
  .have:=ready_mono hj Vb;rw[H.1]at this
   cases this
 | succ k ih=>
  intro listed F h Jm MM hr hy hS H;refine⟨fun h=>(by rw[h]at hr;cases hr),fun j hj=>?_⟩;by_cases Vb:j=i
  .subst Vb;exact hy.opI hi hS ⟨.inr hS,H⟩
  .have h1:=H.2 j (ready_mono hj Vb);obtain⟨Ds,oj,hO,Xc⟩:=mem_ready.1 hj;have FH:∀e∈oj.after,U .any e=true->e.on≠i:=fun e he hb heq=>by
    have h1:=Xc e he hb;have h0:=(mem_ready.1 hr).1;rw[heq]at h1;rcases Nat.lt_or_ge i listed.size with h'|h'
    .simp[h']at h0 h1;rw[h0]at h1;cases h1
    .simp[J h']at h1
   have hjW:j ∉ W:=fun hjw=>by
    obtain⟨f,hf⟩:=hW j hjw;have h1:=MS Jm hf hj;have h0:=(mem_ready.1 hr).1;rcases Nat.lt_or_ge i listed.size with h'|h'
    .simp[h']at h0 h1;rw[h0]at h1;cases h1
    .simp[J h']at h1
   have h2:=Kv hO (MM j oj hO Vb Ds FH) (fun cs b=>Dr i oi cs b hi) (fun cs b=>Dr j oj cs b hO) hy h1;have Kx:∀k ok,ops[k]? = A ok->k≠i->(listed.setIfInBounds j true).getD k true=false ->
     (∀e∈ok.after,U .any e=true->e.on≠i)->oi.apart ops ok=true:=fun k ok hk hki hun hno=>by
    refine MM k ok hk hki ?_ hno;by_cases eE:j=k
    .subst eE;exact Ds
    .rw[getD_set_ne true eE]at hun;exact hun
   refine Jf (fun F' h' h3=>?_) h2;have hS':S h':=h3.2.1.resolve_left hjW;refine⟨.inr hS',ih (listed.setIfInBounds j true) F' h' (Jm.set hj) Kx (ready_mono hr (Ne.symm Vb)) h3.1 hS' ?_⟩;rw[Array.setIfInBounds_comm _ _ Vb];exact h3.2.2
inductive RE where
 | nil
 | q (i:Nat) (t:RE)
 | s (i:Nat) (t:RE)
 | w (i:Nat) (t:RE)
 | or (i:Nat) (t:RE) (r:RE)
def RE.alts:RE->List Nat
 | .s i _=>[i]
 | .w i _=>[i]
 | .or i _ r=>i :: r.alts
 | _=>[]
def RE.OR:RE->Bool
 | .q _ _=>true
 | .s _ t=>t.OR
 | .or _ t r=>t.OR||r.OR
 | _=>false
def RE.ok(ops:Array Oper)(W:List Nat):RE->Nat->Array Bool->Bool->Bool
 | .nil,n,listed,_=>a1 n 0&&(m .any ops listed).isEmpty
 | .q _ _,0,_,_=>false
 | .q i t,n+1,listed,_=>((m .any ops listed).contains i&&(a2 .any ops listed i&&W.all fun j=>UN ops fe j i))&&t.ok ops W n (listed.setIfInBounds i true) true
 | .s _ _,0,_,_=>false
 | .s i t,n+1,listed,b=>(!b||(m .any ops listed == [i]))&&t.ok ops W n (listed.setIfInBounds i true) true
 | .w _ _,0,_,_=>false
 | .w i t,n+1,listed,b=>((!b||(m .any ops listed == [i]))&&(W.contains i&&!t.OR))&&t.ok ops W n (listed.setIfInBounds i true) true
 | .or _ _ _,0,_,_=>false
 | .or i t r,n+1,listed,b=>(!b||(m .any ops listed == i :: r.alts))&&(t.ok ops W n (listed.setIfInBounds i true) true&&r.ok ops W (n+1) listed false)
def ff(P:G)(T:Q)(ops:Array Oper)(S:Hp->Prop)(N:Env->Hp->Prop):RE->Env->Hp->Prop
 | .nil,F,h=>N F h
 | .q i t,F,h=>match ops[i]? with
  | some o=>if Yo ops o F then ∃v,(∀h',S h'->HG P T o (fun v' NS=>v'=v/\NS=h') F h')/\ff P T ops S N t (Z5 F o.dst v) h else ff P T ops S N t (Z5 F o.dst undef) h
  | none=>False
 | .s i t,F,h=>Qp P T ops i (fun F' h'=>S h'/\ff P T ops S N t F' h') F h
 | .w i t,F,h=>Qp P T ops i (fun F' h'=>ff P T ops S N t F' h') F h
 | .or i t r,F,h=>Qp P T ops i (fun F' h'=>S h'/\ff P T ops S N t F' h') F h/\ff P T ops S N r F h
theorem OS{S:Hp->Prop}{W:List Nat}(hs:aI ops=true):∀(t:RE),
  (∀(k:Nat) (listed:Array Bool) (F:Env) (h:Hp),JM ops listed->t.ok ops W k listed true=true->(t.OR=true->S h)->ff P T ops S N t F h->OQ P T ops S W N k listed F h) /\
  (∀(k:Nat) (listed:Array Bool) (F:Env) (h:Hp),JM ops listed->t.ok ops W (k+1) listed false=true->ff P T ops S N t F h->∀j∈t.alts,j∈m .any ops listed->Qp P T ops j (fun F' h'=>(j∈W\/S h')/\OQ P T ops S W N k (listed.setIfInBounds j true) F' h') F h):=by
 intro t
 induction t with
 | nil=>
  refine⟨fun k listed F h Jm hB hS H=>?_,fun k listed F h _ _ _ j hj=>by cases hj⟩;simp only[RE.ok,u,List.isEmpty_iff]at hB;obtain⟨h1,h2⟩:=hB;obtain rfl:=Y h1;exact⟨h2,H⟩
 | q i t ih=>
  refine⟨fun k listed F h Jm hB hS H=>?_,fun k listed F h _ _ _ j hj=>by cases hj⟩;have hS:=hS rfl
  cases k with
  | zero=>simp[RE.ok]at hB
  | succ k=>
   simp only[RE.ok,u]at hB;obtain⟨⟨h1,h2,hw⟩,h3⟩:=hB;have PM:i∈m .any ops listed:=by simpa using h1
   obtain⟨_,o,ho,_⟩:=mem_ready.1 PM;have hW:∀j∈W,∃f,UN ops f j i=true:=fun j hj=>⟨fe,List.all_eq_true.1 hw j hj⟩
   simp only[ff,ho]at H;split at H
   .rename_i LM;obtain⟨v,hv,H⟩:=H;exact MT ho (am hs) hW k listed F h Jm (az ho h2) PM (.inl ⟨LM,hv⟩) hS (ih.1 k _ _ _ (Jm.set PM) h3 (fun _=>hS) H)
   .rename_i LM;exact MT ho (am hs) hW k listed F h Jm (az ho h2) PM (.inr ⟨by simpa using LM,rfl⟩) hS (ih.1 k _ _ _ (Jm.set PM) h3 (fun _=>hS) H)
 | s i t ih=>
  have second:∀(k:Nat) (listed:Array Bool) (F:Env) (h:Hp),JM ops listed->i∈m .any ops listed->t.ok ops W k (listed.setIfInBounds i true) true=true->ff P T ops S N (.s i t) F h->Qp P T ops i (fun F' h'=>(i∈W\/S h')/\OQ P T ops S W N k (listed.setIfInBounds i true) F' h') F h:=by
   intro k listed F h Jm PM hB H;exact Jf (fun F' h' q=>⟨.inr q.1,ih.1 k _ _ _ (Jm.set PM) hB (fun _=>q.1) q.2⟩) H
  refine⟨fun k listed F h Jm hB hS H=>?_,fun k listed F h Jm hB H j hj hr=>?_⟩
  .cases k with
   | zero=>simp[RE.ok]at hB
   | succ k=>
    simp only[RE.ok,u,ao,av,beq_iff_eq]at hB;refine⟨fun h0=>(by rw[hB.1]at h0;cases h0),fun j hj=>?_⟩;have hr:=hj;rw[hB.1]at hj;have hj:j=i:=by simpa using hj
    subst hj;exact second k listed F h Jm hr hB.2 H
  .simp only[RE.ok,u]at hB;have hj:j=i:=by simpa [RE.alts] using hj
   subst hj;exact second k listed F h Jm hr hB.2 H
 | w i t ih=>
  have second:∀(k:Nat) (listed:Array Bool) (F:Env) (h:Hp),JM ops listed->i∈m .any ops listed->i∈W->t.OR=false->t.ok ops W k (listed.setIfInBounds i true) true=true->ff P T ops S N (.w i t) F h->Qp P T ops i (fun F' h'=>(i∈W\/S h')/\OQ P T ops S W N k (listed.setIfInBounds i true) F' h') F h:=by
   intro k listed F h Jm PM hw hq hB H;exact Jf (fun F' h' q=>⟨.inl hw,ih.1 k _ _ _ (Jm.set PM) hB (fun e=>by rw[hq]at e;cases e) q⟩) H
  refine⟨fun k listed F h Jm hB hS H=>?_,fun k listed F h Jm hB H j hj hr=>?_⟩
  .cases k with
   | zero=>simp[RE.ok]at hB
   | succ k=>
    simp only[RE.ok,u,ao,av,beq_iff_eq,aw]at hB;obtain⟨⟨h1,h2,h3⟩,h4⟩:=hB;refine⟨fun h0=>(by rw[h1]at h0;cases h0),fun j hj=>?_⟩;have hr:=hj;rw[h1]at hj;have hj:j=i:=by simpa using hj
    subst hj;exact second k listed F h Jm hr (by simpa using h2) h3 h4 H
  .simp only[RE.ok,u,aw]at hB;obtain⟨⟨h1,h2,h3⟩,h4⟩:=hB;have hj:j=i:=by simpa [RE.alts] using hj
   subst hj;exact second k listed F h Jm hr (by simpa using h2) h3 h4 H
 | or i t r iht ihr=>
  have second:∀(k:Nat) (listed:Array Bool) (F:Env) (h:Hp),JM ops listed->t.ok ops W k (listed.setIfInBounds i true) true=true->r.ok ops W (k+1) listed false=true->ff P T ops S N (.or i t r) F h->∀j∈(RE.or i t r).alts,j∈m .any ops listed->Qp P T ops j (fun F' h'=>(j∈W\/S h')/\OQ P T ops S W N k (listed.setIfInBounds j true) F' h') F h:=by
   intro k listed F h Jm hB hR H j hj hr;rcases List.mem_cons.1 hj with hj|hj
   .subst hj;exact Jf (fun F' h' q=>⟨.inr q.1,iht.1 k _ _ _ (Jm.set hr) hB (fun _=>q.1) q.2⟩) H.1
   .exact ihr.2 k listed F h Jm hR H.2 j hj hr
  refine⟨fun k listed F h Jm hB hS H=>?_,fun k listed F h Jm hB H j hj hr=>?_⟩
  .cases k with
   | zero=>simp[RE.ok]at hB
   | succ k=>
    simp only[RE.ok,u,ao,av,beq_iff_eq]at hB;refine⟨fun h0=>(by rw[hB.1]at h0;cases h0),fun j hj=>?_⟩;have hr:=hj;rw[hB.1]at hj;exact second k listed F h Jm hB.2.1 hB.2.2 H j hj hr
  .simp only[RE.ok,u]at hB;exact second k listed F h Jm hB.2.1 hB.2.2 H j hj hr
def wKs(B:Nat)(h0:Hp)(K:Env->Hp->Prop)(F:Env)(d:Option Tmp):O->Hp->Prop:=fun v h'=>Zf B h0 h'/\K (Z5 F d v) h'
def wKw(K:Env->Hp->Prop)(F:Env)(d:Option Tmp):O->Hp->Prop:=fun v h'=>K (Z5 F d v) h'
def wQg(P:G)(T:Q)(B:Nat)(h0:Hp)(K:Env->Hp->Prop)(F:Env)(h:Hp)(d:Option Tmp)(op:Op)(ty:al)(v:O)(b:Bool):Prop:=XX v b (VY P T B h0 op ty (fun v=>K (Z5 F d v) h) F) (K (Z5 F d undef) h)
def wQ(P:G)(T:Q)(ops:List Oper)(B:Nat)(h0:Hp)(K:Env->Hp->Prop)(F:Env)(h:Hp)(o:Option Oper):Prop:=
 match o with
 | some ⟨d,op,ty,_,_,Z⟩=>VY P T B h0 op ty (fun v=>K (Z5 F d v) h) F
 | some ⟨d,op,ty,_,_,A (j,b)⟩=>wQg P T B h0 K F h d op ty (Ug ops F j) b
 | none=>False
def wSg(P:G)(T:Q)(B:Nat)(h0:Hp)(K:Env->Hp->Prop)(F:Env)(h:Hp)(d:Option Tmp)(op:Op)(ty:al)(v:O)(b:Bool):Prop:=XX v b (Vc P T op ty (wKs B h0 K F d) F h) (Zf B h0 h/\K (Z5 F d undef) h)
def wS(P:G)(T:Q)(ops:List Oper)(B:Nat)(h0:Hp)(K:Env->Hp->Prop)(F:Env)(h:Hp)(o:Option Oper):Prop:=
 match o with
 | some ⟨d,op,ty,_,_,Z⟩=>Vc P T op ty (wKs B h0 K F d) F h
 | some ⟨d,op,ty,_,_,A (j,b)⟩=>wSg P T B h0 K F h d op ty (Ug ops F j) b
 | none=>False
def wWg(P:G)(T:Q)(K:Env->Hp->Prop)(F:Env)(h:Hp)(d:Option Tmp)(op:Op)(ty:al)(v:O)(b:Bool):Prop:=XX v b (Vc P T op ty (wKw K F d) F h) (K (Z5 F d undef) h)
def wW(P:G)(T:Q)(ops:List Oper)(K:Env->Hp->Prop)(F:Env)(h:Hp)(o:Option Oper):Prop:=
 match o with
 | some ⟨d,op,ty,_,_,Z⟩=>Vc P T op ty (wKw K F d) F h
 | some ⟨d,op,ty,_,_,A (j,b)⟩=>wWg P T K F h d op ty (Ug ops F j) b
 | none=>False
def Ea(P:G)(T:Q)(ops:List Oper)(B:Nat)(h0:Hp)(N:Env->Hp->Prop):RE->Env->Hp->Prop
 | .nil,F,h=>N F h
 | .q i t,F,h=>wQ P T ops B h0 (Ea P T ops B h0 N t) F h (nth ops i)
 | .s i t,F,h=>wS P T ops B h0 (Ea P T ops B h0 N t) F h (nth ops i)
 | .w i t,F,h=>wW P T ops (Ea P T ops B h0 N t) F h (nth ops i)
 | .or i t r,F,h=>wS P T ops B h0 (Ea P T ops B h0 N t) F h (nth ops i)/\Ea P T ops B h0 N r F h
theorem OT{ops:List Oper}{B:Nat}{h0:Hp}{i:Nat}{K K':Env->Hp->Prop}(hk:∀F h,K F h->K' F h)(H:wS P T ops B h0 K F h (nth ops i)):Qp P T ops.toArray i (fun F' h'=>Zf B h0 h'/\K' F' h') F h:=by
 refine aG (K:=K) hk ?_
 cases ho:nth ops i with
 | none=>rw[ho]at H;exact H.elim
 | some o=>
  rw[ho]at H;obtain⟨d,op,ty,pos,UH,g⟩:=o
  cases g with
  | none=>exact H
  | some jb=>exact H
theorem DZ{ops:List Oper}{i:Nat}{K K':Env->Hp->Prop}(hk:∀F h,K F h->K' F h)(H:wW P T ops K F h (nth ops i)):Qp P T ops.toArray i K' F h:=by
 unfold Qp
 cases ho:nth ops i with
 | none=>rw[ho]at H;exact H.elim
 | some o=>
  rw[Wv ho];rw[ho]at H;obtain⟨d,op,ty,pos,UH,g⟩:=o
  cases g with
  | none=>
   show (if Yo ops.toArray _ F=true then _ else _);rw[if_pos (by rfl)];exact Qr (fun v h' q=>hk _ _ q) H
  | some jb=>
   obtain⟨j,b⟩:=jb;show (if Yo ops.toArray _ F=true then _ else _);rcases Xb ops F d op pos UH j b H with⟨hw,H⟩|⟨hw,H⟩
   .rw[if_pos hw];exact Qr (fun v h' q=>hk _ _ q) H
   .rw[hw,if_neg Dq];exact hk _ _ H
theorem KY{ops:List Oper}{B:Nat}{h0:Hp}{N:Env->Hp->Prop}:∀(t:RE) (F:Env) (h:Hp),Ea P T ops B h0 N t F h->ff P T ops.toArray (fun h'=>Zf B h0 h') N t F h:=by
 intro t
 induction t with
 | nil=>intro F h H;exact H
 | q i t ih=>
  intro F h H;simp only[Ea]at H;simp only[ff]
  cases ho:nth ops i with
  | none=>rw[ho]at H;exact H.elim
  | some o=>
   rw[Wv ho];rw[ho]at H;obtain⟨d,op,ty,pos,UH,g⟩:=o
   cases g with
   | none=>
    show (if Yo ops.toArray _ F=true then _ else _);rw[if_pos (by rfl)];obtain⟨v,hv,H⟩:=Wn H;exact⟨v,fun h' hs=>JI (hv h' hs),ih _ _ H⟩
   | some jb=>
    obtain⟨j,b⟩:=jb;show (if Yo ops.toArray _ F=true then _ else _);rcases Xb ops F d op pos UH j b H with⟨hw,H⟩|⟨hw,H⟩
    .rw[if_pos hw];obtain⟨v,hv,H⟩:=Wn H;exact⟨v,fun h' hs=>JI (hv h' hs),ih _ _ H⟩
    .rw[hw,if_neg Dq];exact ih _ _ H
 | s i t ih=>intro F h H;exact OT ih H
 | w i t ih=>intro F h H;exact DZ ih H
 | or i t r iht ihr=>intro F h H;exact⟨OT iht H.1,ihr _ _ H.2⟩
theorem SG(ops:Array Oper)(n:Nat):JM ops (a0 n false):=by
 intro j oj _ hl;rw[D]at hl;by_cases hj:j<n
 .simp[hj]at hl
 .rw[J L6]at hl;cases hl
def xe(n:Nat)(ops:Array Oper)(W:List Nat)(t:RE):Bool:=T9 n ops&&(aI ops&&t.ok ops W ops.size (a0 ops.size false) true)
theorem VS.w{id:Nat}{ops:List Oper}(B:Nat)(W:List Nat)(t:RE)(hm:P.follows .mixedOrders=true)(XM:xe n ops.toArray W t=true)(H:Ea P T ops B h N t F h):VS P n T (.region id ops.toArray true) N X R F h:=by
 intro a w h1 h2 h3 h4;simp only[xe,u]at XM;obtain⟨k1,k2,k3⟩:=XM;refine wp_region_any hm ?_;refine X7 k1 _ _ F h (Py _ _ _ _ ((OS (S:=fun h'=>Zf B h h') k2 t).1 _ _ F h (SG _ _) k3 (fun _=>Zf.refl _ _) (KY t F h H))) a _ h1 h2 h3 ⟨h4.heap,h4.tape,h4.os,h4.output⟩
variable {ops:List Oper} {B:Nat} {h0:Hp} {t r:RE} {i j:Nat} {d:Option Tmp} {op:Op} {ty:al} {pos:String} {UH:Array Edge} {b c:Bool} {v:O} {K:Env->Hp->Prop}
def wKq(K:Env->Hp->Prop)(F:Env)(d:Option Tmp)(h:Hp):O->Prop:=fun v=>K (Z5 F d v) h
@[go_sem] theorem Zj1:Ea P T ops B h0 N .nil F h=N F h:=rfl
@[go_sem] theorem Ztl:Ea P T ops B h0 N (.q i t) F h=wQ P T ops B h0 (Ea P T ops B h0 N t) F h (nth ops i):=rfl
@[go_sem] theorem Ztm:Ea P T ops B h0 N (.s i t) F h=wS P T ops B h0 (Ea P T ops B h0 N t) F h (nth ops i):=rfl
@[go_sem] theorem Ztn:Ea P T ops B h0 N (.w i t) F h=wW P T ops (Ea P T ops B h0 N t) F h (nth ops i):=rfl
@[go_sem] theorem Znq:Ea P T ops B h0 N (.or i t r) F h=(wS P T ops B h0 (Ea P T ops B h0 N t) F h (nth ops i)/\Ea P T ops B h0 N r F h):=rfl
@[go_sem] theorem Zf6:wQ P T ops B h0 K F h (A ⟨d,op,ty,pos,UH,Z⟩)=VY P T B h0 op ty (wKq K F d h) F:=rfl
@[go_sem] theorem Zf7:wQ P T ops B h0 K F h (A ⟨d,op,ty,pos,UH,A (j,b)⟩)=wQg P T B h0 K F h d op ty (Ug ops F j) b:=rfl
@[go_sem] theorem Zf8:wS P T ops B h0 K F h (A ⟨d,op,ty,pos,UH,Z⟩)=Vc P T op ty (wKs B h0 K F d) F h:=rfl
@[go_sem] theorem Zf9:wS P T ops B h0 K F h (A ⟨d,op,ty,pos,UH,A (j,b)⟩)=wSg P T B h0 K F h d op ty (Ug ops F j) b:=rfl
@[go_sem] theorem Zga:wW P T ops K F h (A ⟨d,op,ty,pos,UH,Z⟩)=Vc P T op ty (wKw K F d) F h:=rfl
@[go_sem] theorem Zgb:wW P T ops K F h (A ⟨d,op,ty,pos,UH,A (j,b)⟩)=wWg P T K F h d op ty (Ug ops F j) b:=rfl
@[go_sem] theorem Zgc:wQg P T B h0 K F h d op ty (.bool c) b=if c=b then VY P T B h0 op ty (wKq K F d h) F else K (Z5 F d undef) h:=rfl
@[go_sem] theorem Zgd:wSg P T B h0 K F h d op ty (.bool c) b=if c=b then Vc P T op ty (wKs B h0 K F d) F h else (Zf B h0 h/\K (Z5 F d undef) h):=rfl
@[go_sem] theorem Zge:wWg P T K F h d op ty (.bool c) b=if c=b then Vc P T op ty (wKw K F d) F h else K (Z5 F d undef) h:=rfl
@[go_sem] theorem Zj2:wKq K F d h v=K (Z5 F d v) h:=rfl
@[go_sem] theorem Zj3:wKs B h0 K F d v h=(Zf B h0 h/\K (Z5 F d v) h):=rfl
@[go_sem] theorem Zj4:wKw K F d v h=K (Z5 F d v) h:=rfl
end
end Go.V
