/- Part W11. -/
import Derived.Test.YtnhfdnlcpdbjlaaGreatDoorW8
open List renaming any_eq_true→aU
open Nat renaming eq_of_beq_eq_true→am,beq→a1
open Option renaming some→G,none→ak
open Array renaming getD_eq_getD_getElem?→Q,getElem?_eq_none→Z,getElem?_setIfInBounds→au,replicate→aX
open Bool renaming and_eq_true→A,not_true→aF,false_or→aI,not_eq_true'→aK
open Go.Region renaming ready→m,noSelect_spec→aa,binds→al,free_spec→an,free→aw,noSelect→a0
open Go renaming Program→D,TypeId→J,Value→O,Operand→U,World→Y
namespace Go.V
set_option linter.all false
inductive Tr where
 | nil
 | q (i:Nat) (t:Tr)
 | s (i:Nat) (t:Tr)
 | or (i:Nat) (t:Tr) (r:Tr)
def Tr.alts:Tr->List Nat
 | .s i _=>[i]
 | .or i _ r=>i :: r.alts
 | _=>[]
def Tr.ok(ops:Array Oper):Tr->Nat->Array Bool->Bool->Bool
 | .nil,n,listed,_=>a1 n 0&&(m .any ops listed).isEmpty
 | .q _ _,0,_,_=>false
 | .q i t,n+1,listed,_=>((m .any ops listed).contains i&&aw .any ops listed i)&&t.ok ops n (listed.setIfInBounds i true) true
 | .s _ _,0,_,_=>false
 | .s i t,n+1,listed,b=>(!b||(m .any ops listed == [i]))&&t.ok ops n (listed.setIfInBounds i true) true
 | .or _ _ _,0,_,_=>false
 | .or i t r,n+1,listed,b=>(!b||(m .any ops listed == i :: r.alts))&&(t.ok ops n (listed.setIfInBounds i true) true&&r.ok ops (n+1) listed false)
section
variable {P:D} {n:Nat} {T:Y} {N:Env->Hp->Prop} {X:Nat->Env->Hp->Prop} {R:Env->Hp->Prop} {F:Env} {h:Hp}
def sQ(P:D)(T:Y)(ops:List Oper)(B:Nat)(h0:Hp)(N:Env->Hp->Prop):Tr->Env->Hp->Prop
 | .nil,F,h=>N F h
 | .q i t,F,h=>match nth ops i with
  | some ⟨d,op,ty,_,_,ak⟩=>Rp P T B h0 op ty (fun v=>sQ P T ops B h0 N t (YG F d v) h) F
  | some ⟨d,op,ty,_,_,G (j,b)⟩=>JD (U2 ops F j) b (Rp P T B h0 op ty (fun v=>sQ P T ops B h0 N t (YG F d v) h) F) (sQ P T ops B h0 N t (YG F d undef) h)
  | none=>False
 | .s i t,F,h=>match nth ops i with
  | some ⟨d,op,ty,_,_,ak⟩=>TL P T op ty (fun v h'=>Zk B h0 h'/\sQ P T ops B h0 N t (YG F d v) h') F h
  | some ⟨d,op,ty,_,_,G (j,b)⟩=>JD (U2 ops F j) b (TL P T op ty (fun v h'=>Zk B h0 h'/\sQ P T ops B h0 N t (YG F d v) h') F h) (Zk B h0 h/\sQ P T ops B h0 N t (YG F d undef) h)
  | none=>False
 | .or i t r,F,h=>(match nth ops i with
  | some ⟨d,op,ty,_,_,ak⟩=>TL P T op ty (fun v h'=>Zk B h0 h'/\sQ P T ops B h0 N t (YG F d v) h') F h
  | some ⟨d,op,ty,_,_,G (j,b)⟩=>JD (U2 ops F j) b (TL P T op ty (fun v h'=>Zk B h0 h'/\sQ P T ops B h0 N t (YG F d v) h') F h) (Zk B h0 h/\sQ P T ops B h0 N t (YG F d undef) h)
  | none=>False)/\sQ P T ops B h0 N r F h
theorem Rv{ops:List Oper}{i:Nat}{o:Oper}(h:nth ops i=G o):ops.toArray[i]? = G o:=by
 rw[List.getElem?_toArray,<-Y7];exact h
theorem fY{ops:List Oper}{B:Nat}{h0:Hp}{i:Nat}{K K':Env->Hp->Prop}(hk:∀F h,K F h->K' F h)(H:match nth ops i with
    | some ⟨d,op,ty,_,_,ak⟩=>TL P T op ty (fun v h'=>Zk B h0 h'/\K (YG F d v) h') F h
    | some ⟨d,op,ty,_,_,G (j,b)⟩=>JD (U2 ops F j) b (TL P T op ty (fun v h'=>Zk B h0 h'/\K (YG F d v) h') F h) (Zk B h0 h/\K (YG F d undef) h)
    | none=>False):Vs P T ops.toArray i (fun F' h'=>Zk B h0 h'/\K' F' h') F h:=by
 unfold Vs
 cases ho:nth ops i with
 | none=>rw[ho]at H;exact H.elim
 | some o=>
  rw[Rv ho];rw[ho]at H;obtain⟨d,op,ty,pos,Vc,g⟩:=o
  cases g with
  | none=>
   show (if YW ops.toArray _ F=true then _ else _);rw[if_pos (by rfl)];exact Uh (fun v h' q=>⟨q.1,hk _ _ q.2⟩) H
  | some jb=>
   obtain⟨j,b⟩:=jb;show (if YW ops.toArray _ F=true then _ else _);rcases Jb ops F d op pos Vc j b H with⟨hw,H⟩|⟨hw,H⟩
   .rw[if_pos hw];exact Uh (fun v h' q=>⟨q.1,hk _ _ q.2⟩) H
   .rw[hw,if_neg sW];exact⟨H.1,hk _ _ H.2⟩
def tKs(P:D)(T:Y)(ops:List Oper)(B:Nat)(h0:Hp)(N:Env->Hp->Prop)(t:Tr)(F:Env)(d:Option Tmp):O->Hp->Prop:=fun v h'=>Zk B h0 h'/\sQ P T ops B h0 N t (YG F d v) h'
def tS(P:D)(T:Y)(ops:List Oper)(B:Nat)(h0:Hp)(N:Env->Hp->Prop)(t:Tr)(F:Env)(h:Hp)(o:Option Oper):Prop:=
 match o with
 | some ⟨d,op,ty,_,_,ak⟩=>TL P T op ty (tKs P T ops B h0 N t F d) F h
 | some ⟨d,op,ty,_,_,G (j,b)⟩=>JD (U2 ops F j) b (TL P T op ty (tKs P T ops B h0 N t F d) F h) (Zk B h0 h/\sQ P T ops B h0 N t (YG F d undef) h)
 | none=>False
variable {ops:List Oper} {B:Nat} {h0:Hp} {t r:Tr} {i j:Nat} {d:Option Tmp} {op:Op} {ty:J} {pos:String} {Vc:Array Edge} {b c:Bool} {v:O}
end
section
variable {B:Nat} {h h':Hp} {o:Obj} {b:Nat}
@[go_sem] theorem Zib:Zk B h h=True:=eq_true (Zk.refl _ _)
@[go_sem] theorem Zjo(a:Zk h.size h h'):Zk h.size h (h'.push o)=True:=eq_true (a.add _)
@[go_sem] theorem Zjp(a:Zk B h h')(hb:B<=b):Zk B h (h'.setIfInBounds b o)=True:=eq_true (a.Zu hb _)
attribute [go_sem] Nat.le_add_right Nat.le_refl List.cons_append List.nil_append
@[go_sem] theorem Zjq(z:List O):Qa 1 z=z:=by simp[Qa]
@[go_sem] theorem Zjr(z:List O):Qa 2 z=z++z:=by simp[Qa]
end
theorem Qw.Zjs{α:Type}{enc:α->List O}{n B:Nat}{E:J}{h:Hp}{v:O}{l:List α}(Wh:∀x,(enc x).length=n)(hn:n≠0)(s:Qw B E enc n h v l):
  ∃p cap,v=.slice p (List.length l) cap/\(l≠[]->∃b o,p=G ⟨b,o,ak⟩/\B<=b/\b<h.size/\∀i (hi:i<(List.length l)),XX h b (o+i*n) (enc l[i])):=by
 obtain⟨p,cap,hv,XH⟩:=s.ts.open Wh hn;refine⟨p,cap,hv,fun Xb=>?_⟩;obtain⟨b,o,hp,hb,hc⟩:=XH Xb;refine⟨b,o,hp,?_,hb,hc⟩;rcases s.Zr with⟨_,h0,_⟩|⟨b',HP,ZE,hB,Ao,_⟩
 .exact absurd (List.eq_nil_of_length_eq_zero h0) Xb
 .rw[hv,hp]at Ao;simp only[Value.slice.injEq,Option.some.injEq,Addr.mk.injEq]at Ao;obtain⟨⟨rfl,_⟩,_⟩:=Ao;exact hB
theorem Qw.one{α:Type}{enc:α->List O}{n B:Nat}{E:J}{h:Hp}(x:α)(Wh:∀x,(enc x).length=n)(hB:B<=h.size):Qw B E enc n (h.push (.cells (enc x).toArray E)) (.slice (G ⟨h.size,0,ak⟩) 1 1) [x]:=by
 have:=Qw.made (h:=h) (E:=E) (B:=B) Wh [x] hB
 simpa [ZT] using this
section
variable {P:D} {n:Nat} {T:Y} {N:Env->Hp->Prop} {X:Nat->Env->Hp->Prop} {R:Env->Hp->Prop} {F:Env} {h:Hp}
def Vf(ops:Array Oper)(listed:Array Bool):Prop:=
 ∀(j:Nat) oj,ops[j]? = G oj->listed.getD j false=true->∀e∈oj.after,al .any e=true->listed.getD e.on false=true
theorem getD_set_true{l:Array Bool}{j k:Nat}(h:l.getD k false=true):(l.setIfInBounds j true).getD k false=true:=by
 rw[Q]at h ⊢;rw[au];by_cases tY:j=k
 .subst tY;rw[if_pos rfl];by_cases ZV:j<l.size
  .rw[if_pos ZV];rfl
  .rw[Z mD]at h;cases h
 .rw[if_neg tY];exact h
theorem Vf.set{ops:Array Oper}{listed:Array Bool}(c:Vf ops listed){j:Nat}(hj:j∈m .any ops listed):Vf ops (listed.setIfInBounds j true):=by
 intro k ok QZ hl e he hb;obtain⟨_,oj,hoj,XT⟩:=mem_ready.1 hj;by_cases tY:j=k
 .subst tY;rw[hoj]at QZ;obtain rfl:=Option.some.inj QZ;exact getD_set_true (XT e he hb)
 .refine getD_set_true (c k ok QZ ?_ e he hb);rw[Q,au,if_neg tY]at hl;rw[Q];exact hl
def vx:Nat:=16
def ons(ops:Array Oper)(k:Nat):List Nat:=match ops[k]? with|some o=>(o.after.toList.filter fun e=>al .any e).map fun e=>e.on|none=>[]
def Cg(ops:Array Oper):Nat->List Nat->List Nat
 | 0,M=>M
 | k+1,M=>Cg ops k (if M.any (a1 k)=true then ons ops k++M else M)
def SL(ops:Array Oper)(f j i:Nat):Bool:=(Cg ops j (ons ops j)).any (a1 i)
theorem HY{ops:Array Oper}{k:Nat}{L:Nat->Prop}(h:∀o,ops[k]? = G o->∀e∈o.after,al .any e=true->L e.on):∀x∈ons ops k,L x:=by
 intro x hx;unfold ons at hx
 cases ho:ops[k]? with
 | none=>rw[ho]at hx;cases hx
 | some o=>
  rw[ho]at hx;simp only[List.mem_map,List.mem_filter]at hx;obtain⟨e,⟨he,hb⟩,rfl⟩:=hx;exact h o ho e (by simpa using he) hb
theorem H4{ops:Array Oper}{listed:Array Bool}(c:Vf ops listed):∀(k:Nat) (M:List Nat),(∀x∈M,listed.getD x false=true)->∀x∈Cg ops k M,listed.getD x false=true:=by
 intro k
 induction k with
 | zero=>intro M hM;exact hM
 | succ k ih=>
  intro M hM;refine ih _ ?_;split
  .rename_i hk;obtain⟨y,hy,he⟩:=aU.1 hk;obtain rfl:=am he;intro x hx;rcases List.mem_append.1 hx with hx|hx
   .exact HY (L:=fun x=>listed.getD x false=true) (fun o ho e he hb=>c _ o ho (hM _ hy) e he hb) x hx
   .exact hM x hx
  .exact hM
theorem At{ops:Array Oper}{listed:Array Bool}(c:Vf ops listed){i f j:Nat}(h:SL ops f j i=true)(hj:j∈m .any ops listed):listed.getD i false=true:=by
 obtain⟨_,o,ho,XT⟩:=mem_ready.1 hj;unfold SL at h;obtain⟨y,hy,he⟩:=aU.1 h;obtain rfl:=am he;refine H4 c _ _ (HY (L:=fun x=>listed.getD x false=true) fun o' NP e he hb=>?_) _ hy;rw[ho]at NP;obtain rfl:=Option.some.inj NP;exact XT e he hb
inductive sR where
 | nil
 | q (i:Nat) (t:sR)
 | s (i:Nat) (t:sR)
 | w (i:Nat) (t:sR)
 | or (i:Nat) (t:sR) (r:sR)
def sR.alts:sR->List Nat
 | .s i _=>[i]
 | .w i _=>[i]
 | .or i _ r=>i :: r.alts
 | _=>[]
def sR.IM:sR->Bool
 | .q _ _=>true
 | .s _ t=>t.IM
 | .or _ t r=>t.IM||r.IM
 | _=>false
def sR.ok(ops:Array Oper)(W:List Nat):sR->Nat->Array Bool->Bool->Bool
 | .nil,n,listed,_=>a1 n 0&&(m .any ops listed).isEmpty
 | .q _ _,0,_,_=>false
 | .q i t,n+1,listed,_=>((m .any ops listed).contains i&&(aw .any ops listed i&&W.all fun j=>SL ops vx j i))&&t.ok ops W n (listed.setIfInBounds i true) true
 | .s _ _,0,_,_=>false
 | .s i t,n+1,listed,b=>(!b||(m .any ops listed == [i]))&&t.ok ops W n (listed.setIfInBounds i true) true
 | .w _ _,0,_,_=>false
 | .w i t,n+1,listed,b=>((!b||(m .any ops listed == [i]))&&(W.contains i&&!t.IM))&&t.ok ops W n (listed.setIfInBounds i true) true
 | .or _ _ _,0,_,_=>false
 | .or i t r,n+1,listed,b=>(!b||(m .any ops listed == i :: r.alts))&&(t.ok ops W n (listed.setIfInBounds i true) true&&r.ok ops W (n+1) listed false)
def wKs(B:Nat)(h0:Hp)(K:Env->Hp->Prop)(F:Env)(d:Option Tmp):O->Hp->Prop:=fun v h'=>Zk B h0 h'/\K (YG F d v) h'
def wKw(K:Env->Hp->Prop)(F:Env)(d:Option Tmp):O->Hp->Prop:=fun v h'=>K (YG F d v) h'
def wQg(P:D)(T:Y)(B:Nat)(h0:Hp)(K:Env->Hp->Prop)(F:Env)(h:Hp)(d:Option Tmp)(op:Op)(ty:J)(v:O)(b:Bool):Prop:=JD v b (Rp P T B h0 op ty (fun v=>K (YG F d v) h) F) (K (YG F d undef) h)
def wQ(P:D)(T:Y)(ops:List Oper)(B:Nat)(h0:Hp)(K:Env->Hp->Prop)(F:Env)(h:Hp)(o:Option Oper):Prop:=
 match o with
 | some ⟨d,op,ty,_,_,ak⟩=>Rp P T B h0 op ty (fun v=>K (YG F d v) h) F
 | some ⟨d,op,ty,_,_,G (j,b)⟩=>wQg P T B h0 K F h d op ty (U2 ops F j) b
 | none=>False
def wSg(P:D)(T:Y)(B:Nat)(h0:Hp)(K:Env->Hp->Prop)(F:Env)(h:Hp)(d:Option Tmp)(op:Op)(ty:J)(v:O)(b:Bool):Prop:=JD v b (TL P T op ty (wKs B h0 K F d) F h) (Zk B h0 h/\K (YG F d undef) h)
def wS(P:D)(T:Y)(ops:List Oper)(B:Nat)(h0:Hp)(K:Env->Hp->Prop)(F:Env)(h:Hp)(o:Option Oper):Prop:=
 match o with
 | some ⟨d,op,ty,_,_,ak⟩=>TL P T op ty (wKs B h0 K F d) F h
 | some ⟨d,op,ty,_,_,G (j,b)⟩=>wSg P T B h0 K F h d op ty (U2 ops F j) b
 | none=>False
def wWg(P:D)(T:Y)(K:Env->Hp->Prop)(F:Env)(h:Hp)(d:Option Tmp)(op:Op)(ty:J)(v:O)(b:Bool):Prop:=JD v b (TL P T op ty (wKw K F d) F h) (K (YG F d undef) h)
def wW(P:D)(T:Y)(ops:List Oper)(K:Env->Hp->Prop)(F:Env)(h:Hp)(o:Option Oper):Prop:=
 match o with
 | some ⟨d,op,ty,_,_,ak⟩=>TL P T op ty (wKw K F d) F h
 | some ⟨d,op,ty,_,_,G (j,b)⟩=>wWg P T K F h d op ty (U2 ops F j) b
 | none=>False
theorem Au{ops:List Oper}{B:Nat}{h0:Hp}{i:Nat}{K K':Env->Hp->Prop}(hk:∀F h,K F h->K' F h)(H:wS P T ops B h0 K F h (nth ops i)):Vs P T ops.toArray i (fun F' h'=>Zk B h0 h'/\K' F' h') F h:=by
 refine fY (K:=K) hk ?_
 cases ho:nth ops i with
 | none=>rw[ho]at H;exact H.elim
 | some o=>
  rw[ho]at H;obtain⟨d,op,ty,pos,Vc,g⟩:=o
  cases g with
  | none=>exact H
  | some jb=>exact H
theorem vy{ops:List Oper}{i:Nat}{K K':Env->Hp->Prop}(hk:∀F h,K F h->K' F h)(H:wW P T ops K F h (nth ops i)):Vs P T ops.toArray i K' F h:=by
 unfold Vs
 cases ho:nth ops i with
 | none=>rw[ho]at H;exact H.elim
 | some o=>
  rw[Rv ho];rw[ho]at H;obtain⟨d,op,ty,pos,Vc,g⟩:=o
  cases g with
  | none=>
   show (if YW ops.toArray _ F=true then _ else _);rw[if_pos (by rfl)];exact Uh (fun v h' q=>hk _ _ q) H
  | some jb=>
   obtain⟨j,b⟩:=jb;show (if YW ops.toArray _ F=true then _ else _);rcases Jb ops F d op pos Vc j b H with⟨hw,H⟩|⟨hw,H⟩
   .rw[if_pos hw];exact Uh (fun v h' q=>hk _ _ q) H
   .rw[hw,if_neg sW];exact hk _ _ H
theorem Av(ops:Array Oper)(n:Nat):Vf ops (aX n false):=by
 intro j oj _ hl;rw[Q]at hl;by_cases hj:j<n
 .simp[hj]at hl
 .rw[Z vI]at hl;cases hl
variable {ops:List Oper} {B:Nat} {h0:Hp} {t r:sR} {i j:Nat} {d:Option Tmp} {op:Op} {ty:J} {pos:String} {Vc:Array Edge} {b c:Bool} {v:O} {K:Env->Hp->Prop}
def wKq(K:Env->Hp->Prop)(F:Env)(d:Option Tmp)(h:Hp):O->Prop:=fun v=>K (YG F d v) h
@[go_sem] theorem Zjw:wQ P T ops B h0 K F h (G ⟨d,op,ty,pos,Vc,ak⟩)=Rp P T B h0 op ty (wKq K F d h) F:=rfl
@[go_sem] theorem Zjx:wQ P T ops B h0 K F h (G ⟨d,op,ty,pos,Vc,G (j,b)⟩)=wQg P T B h0 K F h d op ty (U2 ops F j) b:=rfl
@[go_sem] theorem Zjy:wS P T ops B h0 K F h (G ⟨d,op,ty,pos,Vc,ak⟩)=TL P T op ty (wKs B h0 K F d) F h:=rfl
@[go_sem] theorem Zjz:wS P T ops B h0 K F h (G ⟨d,op,ty,pos,Vc,G (j,b)⟩)=wSg P T B h0 K F h d op ty (U2 ops F j) b:=rfl
@[go_sem] theorem ZjA:wW P T ops K F h (G ⟨d,op,ty,pos,Vc,ak⟩)=TL P T op ty (wKw K F d) F h:=rfl
@[go_sem] theorem ZjB:wW P T ops K F h (G ⟨d,op,ty,pos,Vc,G (j,b)⟩)=wWg P T K F h d op ty (U2 ops F j) b:=rfl
@[go_sem] theorem ZjC:wQg P T B h0 K F h d op ty (.bool c) b=if c=b then Rp P T B h0 op ty (wKq K F d h) F else K (YG F d undef) h:=rfl
@[go_sem] theorem ZjD:wSg P T B h0 K F h d op ty (.bool c) b=if c=b then TL P T op ty (wKs B h0 K F d) F h else (Zk B h0 h/\K (YG F d undef) h):=rfl
@[go_sem] theorem ZjE:wWg P T K F h d op ty (.bool c) b=if c=b then TL P T op ty (wKw K F d) F h else K (YG F d undef) h:=rfl
@[go_sem] theorem Zng:wKq K F d h v=K (YG F d v) h:=rfl
@[go_sem] theorem Znh:wKs B h0 K F d v h=(Zk B h0 h/\K (YG F d v) h):=rfl
@[go_sem] theorem Zni:wKw K F d v h=K (YG F d v) h:=rfl
end
end Go.V
namespace Go.V
set_option linter.all false
section
variable {P:D} {n:Nat} {T:Y} {N:Env->Hp->Prop} {X:Nat->Env->Hp->Prop} {R:Env->Hp->Prop} {F:Env} {h:Hp}
def MO(P:D)(T:Y)(ops:Array Oper)(S:Hp->Prop)(W:List Nat)(N:Env->Hp->Prop):Nat->Array Bool->Env->Hp->Prop
 | 0,listed,F,h=>m .any ops listed=[]/\N F h
 | k+1,listed,F,h=>(m .any ops listed=[]->N F h) /\
   ∀i∈m .any ops listed,Vs P T ops i (fun F' h'=>(i∈W\/(S h->S h'))/\MO P T ops S W N k (listed.setIfInBounds i true) F' h') F h
theorem Ee{ops:Array Oper}{S:Hp->Prop}{W:List Nat}:∀(k:Nat) (listed:Array Bool) (F:Env) (h:Hp),MO P T ops S W N k listed F h->mG P T ops (fun _=>True) N k listed F h:=by
 intro k
 induction k with
 | zero=>intro listed F h H;exact H
 | succ k ih=>intro listed F h H;exact⟨H.1,fun i hi=>VI (fun F' h' q=>⟨trivial,ih _ _ _ q.2⟩) (H.2 i hi)⟩
theorem TU{ops:Array Oper}{S S1:Hp->Prop}{W:List Nat}{i:Nat}{oi:Oper}{v:O}(hi:ops[i]? = G oi)(tV:∀(j:Nat) (o:Oper) cs b,ops[j]? = G o->o.op ≠ .select cs b)(hW:(∀h,S1 h)\/((∀h,S h->S1 h)/\∀j∈W,∃f,SL ops f j i=true)):
  ∀(k:Nat) (listed:Array Bool) (F:Env) (h:Hp),Vf ops listed ->
   (∀j oj,ops[j]? = G oj->j≠i->listed.getD j true=false->(∀e∈oj.after,al .any e=true->e.on≠i)->oi.apart ops oj=true) ->
   i∈m .any ops listed->Wx P T ops S1 oi v F->((∀h,S1 h)\/S h) ->
   MO P T ops S W N k (listed.setIfInBounds i true) (YG F oi.dst v) h->MO P T ops S W N (k+1) listed F h:=by
 intro k
 induction k with
 | zero=>
  intro listed F h _ _ hr hy hS H;have hS1:S1 h:=hS.elim (fun q=>q h) (fun q=>hW.elim (fun p=>p h) (fun p=>p.1 h q));refine⟨fun h=>(by rw[h]at hr;cases hr),fun j hj=>?_⟩;by_cases Px:j=i
  .subst Px;exact hy.opI hi hS1 ⟨.inr id,H⟩
  .have:=ready_mono hj Px;rw[H.1]at this
   cases this
 | succ k ih=>
  intro listed F h Vb BM hr hy hS H;have hS1:S1 h:=hS.elim (fun q=>q h) (fun q=>hW.elim (fun p=>p h) (fun p=>p.1 h q));refine⟨fun h=>(by rw[h]at hr;cases hr),fun j hj=>?_⟩;by_cases Px:j=i
  .subst Px;exact hy.opI hi hS1 ⟨.inr id,H⟩
  .have h1:=H.2 j (ready_mono hj Px);obtain⟨tW,oj,hoj,XT⟩:=mem_ready.1 hj;have dX:∀e∈oj.after,al .any e=true->e.on≠i:=fun e he hb heq=>by
    have h1:=XT e he hb;have h0:=(mem_ready.1 hr).1;rw[heq]at h1;rcases Nat.lt_or_ge i listed.size with h'|h'
    .simp[h']at h0 h1;rw[h0]at h1;cases h1
    .simp[Z h']at h1
   have h2:=BL hoj (BM j oj hoj Px tW dX) (fun cs b=>tV i oi cs b hi) (fun cs b=>tV j oj cs b hoj) hy h1;have dY:∀k ok,ops[k]? = G ok->k≠i->(listed.setIfInBounds j true).getD k true=false ->
     (∀e∈ok.after,al .any e=true->e.on≠i)->oi.apart ops ok=true:=fun k ok hk hki hun tX=>by
    refine BM k ok hk hki ?_ tX;by_cases tY:j=k
    .subst tY;exact tW
    .rw[getD_set_ne true tY]at hun;exact hun
   refine VI (fun F' h' h3=>?_) h2;refine⟨h3.2.1,ih (listed.setIfInBounds j true) F' h' (Vb.set hj) dY (ready_mono hr (Ne.symm Px)) h3.1 ?_ ?_⟩
   .rcases hW with hW|⟨hW1,hW2⟩
    .exact .inl hW
    .rcases hS with hS|hS
     .exact .inl hS
     .rcases h3.2.1 with hjw|hss
      .obtain⟨f,hf⟩:=hW2 j hjw;have h1:=At Vb hf hj;have h0:=(mem_ready.1 hr).1;rcases Nat.lt_or_ge i listed.size with h'|h'
       .simp[h']at h0 h1;rw[h0]at h1;cases h1
       .simp[Z h']at h1
      .exact .inr (hss hS)
   .rw[Array.setIfInBounds_comm _ _ Px];exact h3.2.2
inductive Tz where
 | nil
 | p (i:Nat) (t:Tz)
 | q (i:Nat) (t:Tz)
 | s (i:Nat) (t:Tz)
 | w (i:Nat) (t:Tz)
 | or (i:Nat) (t:Tz) (r:Tz)
def Tz.alts:Tz->List Nat
 | .s i _=>[i]
 | .w i _=>[i]
 | .or i _ r=>i :: r.alts
 | _=>[]
def Tz.IM:Tz->Bool
 | .q _ _=>true
 | .p _ t=>t.IM
 | .s _ t=>t.IM
 | .or _ t r=>t.IM||r.IM
 | _=>false
def Tz.ok(ops:Array Oper)(W:List Nat):Tz->Nat->Array Bool->Bool->Bool
 | .nil,n,listed,_=>a1 n 0&&(m .any ops listed).isEmpty
 | .p _ _,0,_,_=>false
 | .p i t,n+1,listed,_=>((m .any ops listed).contains i&&aw .any ops listed i)&&t.ok ops W n (listed.setIfInBounds i true) true
 | .q _ _,0,_,_=>false
 | .q i t,n+1,listed,_=>((m .any ops listed).contains i&&(aw .any ops listed i&&W.all fun j=>SL ops vx j i))&&t.ok ops W n (listed.setIfInBounds i true) true
 | .s _ _,0,_,_=>false
 | .s i t,n+1,listed,b=>(!b||(m .any ops listed == [i]))&&t.ok ops W n (listed.setIfInBounds i true) true
 | .w _ _,0,_,_=>false
 | .w i t,n+1,listed,b=>((!b||(m .any ops listed == [i]))&&(W.contains i&&!t.IM))&&t.ok ops W n (listed.setIfInBounds i true) true
 | .or _ _ _,0,_,_=>false
 | .or i t r,n+1,listed,b=>(!b||(m .any ops listed == i :: r.alts))&&(t.ok ops W n (listed.setIfInBounds i true) true&&r.ok ops W (n+1) listed false)
def BA(P:D)(T:Y)(ops:Array Oper)(S:Hp->Prop)(N:Env->Hp->Prop):Tz->Env->Hp->Prop
 | .nil,F,h=>N F h
 | .p i t,F,h=>match ops[i]? with
  | some o=>if YW ops o F then ∃v,(∀h',EB P T o (fun v' II=>v'=v/\II=h') F h')/\BA P T ops S N t (YG F o.dst v) h else BA P T ops S N t (YG F o.dst undef) h
  | none=>False
 | .q i t,F,h=>match ops[i]? with
  | some o=>if YW ops o F then ∃v,(∀h',S h'->EB P T o (fun v' II=>v'=v/\II=h') F h')/\BA P T ops S N t (YG F o.dst v) h else BA P T ops S N t (YG F o.dst undef) h
  | none=>False
 | .s i t,F,h=>Vs P T ops i (fun F' h'=>S h'/\BA P T ops S N t F' h') F h
 | .w i t,F,h=>Vs P T ops i (fun F' h'=>BA P T ops S N t F' h') F h
 | .or i t r,F,h=>Vs P T ops i (fun F' h'=>S h'/\BA P T ops S N t F' h') F h/\BA P T ops S N r F h
theorem Ch{ops:Array Oper}{S:Hp->Prop}{W:List Nat}(hs:a0 ops=true):∀(t:Tz),
  (∀(k:Nat) (listed:Array Bool) (F:Env) (h:Hp),Vf ops listed->t.ok ops W k listed true=true->(t.IM=true->S h)->BA P T ops S N t F h->MO P T ops S W N k listed F h) /\
  (∀(k:Nat) (listed:Array Bool) (F:Env) (h:Hp),Vf ops listed->t.ok ops W (k+1) listed false=true->BA P T ops S N t F h->∀j∈t.alts,j∈m .any ops listed->Vs P T ops j (fun F' h'=>(j∈W\/(S h->S h'))/\MO P T ops S W N k (listed.setIfInBounds j true) F' h') F h):=by
 intro t
 induction t with
 | nil=>
  refine⟨fun k listed F h Vb hB hS H=>?_,fun k listed F h _ _ _ j hj=>by cases hj⟩;simp only[Tz.ok,A,List.isEmpty_iff]at hB;obtain⟨h1,h2⟩:=hB;obtain rfl:=am h1;exact⟨h2,H⟩
 | p i t ih=>
  refine⟨fun k listed F h Vb hB hS H=>?_,fun k listed F h _ _ _ j hj=>by cases hj⟩
  cases k with
  | zero=>simp[Tz.ok]at hB
  | succ k=>
   simp only[Tz.ok,A]at hB;obtain⟨⟨h1,h2⟩,h3⟩:=hB;have IJ:i∈m .any ops listed:=by simpa using h1
   obtain⟨_,o,ho,_⟩:=mem_ready.1 IJ;simp only[BA,ho]at H;split at H
   .rename_i DU;obtain⟨v,hv,H⟩:=H;exact TU (S1:=fun _=>True) ho (aa hs) (.inl fun _=>trivial) k listed F h Vb (an ho h2) IJ (.inl ⟨DU,fun h' _=>hv h'⟩) (.inl fun _=>trivial) (ih.1 k _ _ _ (Vb.set IJ) h3 hS H)
   .rename_i DU;exact TU (S1:=fun _=>True) ho (aa hs) (.inl fun _=>trivial) k listed F h Vb (an ho h2) IJ (.inr ⟨by simpa using DU,rfl⟩) (.inl fun _=>trivial) (ih.1 k _ _ _ (Vb.set IJ) h3 hS H)
 | q i t ih=>
  refine⟨fun k listed F h Vb hB hS H=>?_,fun k listed F h _ _ _ j hj=>by cases hj⟩;have hS:=hS rfl
  cases k with
  | zero=>simp[Tz.ok]at hB
  | succ k=>
   simp only[Tz.ok,A]at hB;obtain⟨⟨h1,h2,hw⟩,h3⟩:=hB;have IJ:i∈m .any ops listed:=by simpa using h1
   obtain⟨_,o,ho,_⟩:=mem_ready.1 IJ;have hW:∀j∈W,∃f,SL ops f j i=true:=fun j hj=>⟨vx,List.all_eq_true.1 hw j hj⟩
   simp only[BA,ho]at H;split at H
   .rename_i DU;obtain⟨v,hv,H⟩:=H;exact TU ho (aa hs) (.inr ⟨fun _ q=>q,hW⟩) k listed F h Vb (an ho h2) IJ (.inl ⟨DU,hv⟩) (.inr hS) (ih.1 k _ _ _ (Vb.set IJ) h3 (fun _=>hS) H)
   .rename_i DU;exact TU ho (aa hs) (.inr ⟨fun _ q=>q,hW⟩) k listed F h Vb (an ho h2) IJ (.inr ⟨by simpa using DU,rfl⟩) (.inr hS) (ih.1 k _ _ _ (Vb.set IJ) h3 (fun _=>hS) H)
 | s i t ih=>
  have second:∀(k:Nat) (listed:Array Bool) (F:Env) (h:Hp),Vf ops listed->i∈m .any ops listed->t.ok ops W k (listed.setIfInBounds i true) true=true->BA P T ops S N (.s i t) F h->Vs P T ops i (fun F' h'=>(i∈W\/(S h->S h'))/\MO P T ops S W N k (listed.setIfInBounds i true) F' h') F h:=by
   intro k listed F h Vb IJ hB H;exact VI (fun F' h' q=>⟨.inr fun _=>q.1,ih.1 k _ _ _ (Vb.set IJ) hB (fun _=>q.1) q.2⟩) H
  refine⟨fun k listed F h Vb hB hS H=>?_,fun k listed F h Vb hB H j hj hr=>?_⟩
  .cases k with
   | zero=>simp[Tz.ok]at hB
   | succ k=>
    simp only[Tz.ok,A,aF,aI,beq_iff_eq]at hB;refine⟨fun h0=>(by rw[hB.1]at h0;cases h0),fun j hj=>?_⟩;have hr:=hj;rw[hB.1]at hj;have hj:j=i:=by simpa using hj
    subst hj;exact second k listed F h Vb hr hB.2 H
  .simp only[Tz.ok,A]at hB;have hj:j=i:=by simpa [Tz.alts] using hj
   subst hj;exact second k listed F h Vb hr hB.2 H
 | w i t ih=>
  have second:∀(k:Nat) (listed:Array Bool) (F:Env) (h:Hp),Vf ops listed->i∈m .any ops listed->i∈W->t.IM=false->t.ok ops W k (listed.setIfInBounds i true) true=true->BA P T ops S N (.w i t) F h->Vs P T ops i (fun F' h'=>(i∈W\/(S h->S h'))/\MO P T ops S W N k (listed.setIfInBounds i true) F' h') F h:=by
   intro k listed F h Vb IJ hw hq hB H;exact VI (fun F' h' q=>⟨.inl hw,ih.1 k _ _ _ (Vb.set IJ) hB (fun e=>by rw[hq]at e;cases e) q⟩) H
  refine⟨fun k listed F h Vb hB hS H=>?_,fun k listed F h Vb hB H j hj hr=>?_⟩
  .cases k with
   | zero=>simp[Tz.ok]at hB
   | succ k=>
    simp only[Tz.ok,A,aF,aI,beq_iff_eq,aK]at hB;obtain⟨⟨h1,h2,h3⟩,h4⟩:=hB;refine⟨fun h0=>(by rw[h1]at h0;cases h0),fun j hj=>?_⟩;have hr:=hj;rw[h1]at hj;have hj:j=i:=by simpa using hj
    subst hj;exact second k listed F h Vb hr (by simpa using h2) h3 h4 H
  .simp only[Tz.ok,A,aK]at hB;obtain⟨⟨h1,h2,h3⟩,h4⟩:=hB;have hj:j=i:=by simpa [Tz.alts] using hj
   subst hj;exact second k listed F h Vb hr (by simpa using h2) h3 h4 H
 | or i t r iht ihr=>
  have second:∀(k:Nat) (listed:Array Bool) (F:Env) (h:Hp),Vf ops listed->t.ok ops W k (listed.setIfInBounds i true) true=true->r.ok ops W (k+1) listed false=true->BA P T ops S N (.or i t r) F h->∀j∈(Tz.or i t r).alts,j∈m .any ops listed->Vs P T ops j (fun F' h'=>(j∈W\/(S h->S h'))/\MO P T ops S W N k (listed.setIfInBounds j true) F' h') F h:=by
   intro k listed F h Vb hB hR H j hj hr;rcases List.mem_cons.1 hj with hj|hj
   .subst hj;exact VI (fun F' h' q=>⟨.inr fun _=>q.1,iht.1 k _ _ _ (Vb.set hr) hB (fun _=>q.1) q.2⟩) H.1
   .exact ihr.2 k listed F h Vb hR H.2 j hj hr
  refine⟨fun k listed F h Vb hB hS H=>?_,fun k listed F h Vb hB H j hj hr=>?_⟩
  .cases k with
   | zero=>simp[Tz.ok]at hB
   | succ k=>
    simp only[Tz.ok,A,aF,aI,beq_iff_eq]at hB;refine⟨fun h0=>(by rw[hB.1]at h0;cases h0),fun j hj=>?_⟩;have hr:=hj;rw[hB.1]at hj;exact second k listed F h Vb hB.2.1 hB.2.2 H j hj hr
  .simp only[Tz.ok,A]at hB;exact second k listed F h Vb hB.2.1 hB.2.2 H j hj hr
def BC(P:D)(T:Y)(op:Op)(ty:J)(C:O->Prop)(F:Env):Prop:=
 match op with
 | .load _ _=>False
 | op=>Rp P T 0 #[] op ty C F
theorem EQ{op:Op}{ty:J}{C:O->Prop}(H:BC P T op ty C F):∃v,(∀h',TL P T op ty (fun v' II=>v'=v/\II=h') F h')/\C v:=by
 cases op<;>first|exact H|exact H.elim
def zPg(P:D)(T:Y)(K:Env->Hp->Prop)(F:Env)(h:Hp)(d:Option Tmp)(op:Op)(ty:J)(v:O)(b:Bool):Prop:=JD v b (BC P T op ty (fun v=>K (YG F d v) h) F) (K (YG F d undef) h)
def zP(P:D)(T:Y)(ops:List Oper)(K:Env->Hp->Prop)(F:Env)(h:Hp)(o:Option Oper):Prop:=
 match o with
 | some ⟨d,op,ty,_,_,ak⟩=>BC P T op ty (fun v=>K (YG F d v) h) F
 | some ⟨d,op,ty,_,_,G (j,b)⟩=>zPg P T K F h d op ty (U2 ops F j) b
 | none=>False
def FU(P:D)(T:Y)(ops:List Oper)(B:Nat)(h0:Hp)(N:Env->Hp->Prop):Tz->Env->Hp->Prop
 | .nil,F,h=>N F h
 | .p i t,F,h=>zP P T ops (FU P T ops B h0 N t) F h (nth ops i)
 | .q i t,F,h=>wQ P T ops B h0 (FU P T ops B h0 N t) F h (nth ops i)
 | .s i t,F,h=>wS P T ops B h0 (FU P T ops B h0 N t) F h (nth ops i)
 | .w i t,F,h=>wW P T ops (FU P T ops B h0 N t) F h (nth ops i)
 | .or i t r,F,h=>wS P T ops B h0 (FU P T ops B h0 N t) F h (nth ops i)/\FU P T ops B h0 N r F h
theorem fZ{ops:List Oper}{B:Nat}{h0:Hp}{N:Env->Hp->Prop}:∀(t:Tz) (F:Env) (h:Hp),FU P T ops B h0 N t F h->BA P T ops.toArray (fun h'=>Zk B h0 h') N t F h:=by
 intro t
 induction t with
 | nil=>intro F h H;exact H
 | p i t ih=>
  intro F h H;simp only[FU]at H;simp only[BA]
  cases ho:nth ops i with
  | none=>rw[ho]at H;exact H.elim
  | some o=>
   rw[Rv ho];rw[ho]at H;obtain⟨d,op,ty,pos,Vc,g⟩:=o
   cases g with
   | none=>
    show (if YW ops.toArray _ F=true then _ else _);rw[if_pos (by rfl)];obtain⟨v,hv,H⟩:=EQ H;exact⟨v,fun h'=>Ux (hv h'),ih _ _ H⟩
   | some jb=>
    obtain⟨j,b⟩:=jb;show (if YW ops.toArray _ F=true then _ else _);rcases Jb ops F d op pos Vc j b H with⟨hw,H⟩|⟨hw,H⟩
    .rw[if_pos hw];obtain⟨v,hv,H⟩:=EQ H;exact⟨v,fun h'=>Ux (hv h'),ih _ _ H⟩
    .rw[hw,if_neg sW];exact ih _ _ H
 | q i t ih=>
  intro F h H;simp only[FU]at H;simp only[BA]
  cases ho:nth ops i with
  | none=>rw[ho]at H;exact H.elim
  | some o=>
   rw[Rv ho];rw[ho]at H;obtain⟨d,op,ty,pos,Vc,g⟩:=o
   cases g with
   | none=>
    show (if YW ops.toArray _ F=true then _ else _);rw[if_pos (by rfl)];obtain⟨v,hv,H⟩:=OG H;exact⟨v,fun h' hs=>Ux (hv h' hs),ih _ _ H⟩
   | some jb=>
    obtain⟨j,b⟩:=jb;show (if YW ops.toArray _ F=true then _ else _);rcases Jb ops F d op pos Vc j b H with⟨hw,H⟩|⟨hw,H⟩
    .rw[if_pos hw];obtain⟨v,hv,H⟩:=OG H;exact⟨v,fun h' hs=>Ux (hv h' hs),ih _ _ H⟩
    .rw[hw,if_neg sW];exact ih _ _ H
 | s i t ih=>intro F h H;exact Au ih H
 | w i t ih=>intro F h H;exact vy ih H
 | or i t r iht ihr=>intro F h H;exact⟨Au iht H.1,ihr _ _ H.2⟩
def ZjG(n:Nat)(ops:Array Oper)(W:List Nat)(t:Tz):Bool:=Hv n ops&&(a0 ops&&t.ok ops W ops.size (aX ops.size false) true)
theorem VS.z{id:Nat}{ops:List Oper}(B:Nat)(W:List Nat)(t:Tz)(hm:P.follows .mixedOrders=true)(QZ:ZjG n ops.toArray W t=true)(H:FU P T ops B h N t F h):VS P n T (.region id ops.toArray true) N X R F h:=by
 intro a w h1 h2 h3 h4;simp only[ZjG,A]at QZ;obtain⟨k1,k2,k3⟩:=QZ;refine wp_region_any hm ?_;refine Uf k1 _ _ F h (Ee _ _ _ _ ((Ch (S:=fun h'=>Zk B h h') k2 t).1 _ _ F h (Av _ _) k3 (fun _=>Zk.refl _ _) (fZ t F h H))) a _ h1 h2 h3 ⟨h4.heap,h4.tape,h4.os,h4.output⟩
variable {ops:List Oper} {B:Nat} {h0:Hp} {t r:Tz} {i j:Nat} {d:Option Tmp} {op:Op} {ty:J} {pos:String} {Vc:Array Edge} {b c:Bool} {v:O} {K:Env->Hp->Prop} {C:O->Prop}
@[go_sem] theorem Znj:FU P T ops B h0 N .nil F h=N F h:=rfl
@[go_sem] theorem Zwv:FU P T ops B h0 N (.p i t) F h=zP P T ops (FU P T ops B h0 N t) F h (nth ops i):=rfl
@[go_sem] theorem Zww:FU P T ops B h0 N (.q i t) F h=wQ P T ops B h0 (FU P T ops B h0 N t) F h (nth ops i):=rfl
@[go_sem] theorem Zwx:FU P T ops B h0 N (.s i t) F h=wS P T ops B h0 (FU P T ops B h0 N t) F h (nth ops i):=rfl
@[go_sem] theorem Zwy:FU P T ops B h0 N (.w i t) F h=wW P T ops (FU P T ops B h0 N t) F h (nth ops i):=rfl
@[go_sem] theorem ZpZ:FU P T ops B h0 N (.or i t r) F h=(wS P T ops B h0 (FU P T ops B h0 N t) F h (nth ops i)/\FU P T ops B h0 N r F h):=rfl
@[go_sem] theorem ZjH:zP P T ops K F h (G ⟨d,op,ty,pos,Vc,ak⟩)=BC P T op ty (wKq K F d h) F:=rfl
@[go_sem] theorem ZjI:zP P T ops K F h (G ⟨d,op,ty,pos,Vc,G (j,b)⟩)=zPg P T K F h d op ty (U2 ops F j) b:=rfl
@[go_sem] theorem ZjJ:zPg P T K F h d op ty (.bool c) b=if c=b then BC P T op ty (wKq K F d h) F else K (YG F d undef) h:=rfl
@[go_sem] theorem ZjK{x:U}:BC P T (.move x) ty C F=Rp P T 0 #[] (.move x) ty C F:=rfl
@[go_sem] theorem ZfH{x:U}:BC P T (.assign x) ty C F=Rp P T 0 #[] (.assign x) ty C F:=rfl
@[go_sem] theorem Zic{t:J}{x:U}{i:Nat}:BC P T (.fieldAddr t x i) ty C F=Rp P T 0 #[] (.fieldAddr t x i) ty C F:=rfl
@[go_sem] theorem Zp0{t:J}{x i:U}:BC P T (.indexAddr t x i) ty C F=Rp P T 0 #[] (.indexAddr t x i) ty C F:=rfl
@[go_sem] theorem ZjL{x y z:U}:BC P T (.pick x y z) ty C F=Rp P T 0 #[] (.pick x y z) ty C F:=rfl
@[go_sem] theorem Znk{x:U}:BC P T (.nilCheck x) ty C F=Rp P T 0 #[] (.nilCheck x) ty C F:=rfl
@[go_sem] theorem Znl{op:BinOp}{t t':J}{x y:U}:BC P T (.binOp op t x y t') ty C F=Rp P T 0 #[] (.binOp op t x y t') ty C F:=rfl
@[go_sem] theorem Zp1{op:UnOp}{t:J}{x:U}:BC P T (.unOp op t x) ty C F=Rp P T 0 #[] (.unOp op t x) ty C F:=rfl
@[go_sem] theorem ZjM{s t:J}{x:U}:BC P T (.convert s t x) ty C F=Rp P T 0 #[] (.convert s t x) ty C F:=rfl
@[go_sem] theorem Zer{x:U}{i:Nat}:BC P T (.extract x i) ty C F=Rp P T 0 #[] (.extract x i) ty C F:=rfl
@[go_sem] theorem Znm{t:J}{x:U}{lo hi mx:Option U}:BC P T (.slice t x lo hi mx) ty C F=Rp P T 0 #[] (.slice t x lo hi mx) ty C F:=rfl
@[go_sem] theorem Zid{t:J}{parts:Array (Nat × U)}:BC P T (.build t parts) ty C F=Rp P T 0 #[] (.build t parts) ty C F:=rfl
@[go_sem] theorem ZjN{c:Call}:BC P T (.call c) ty C F=Rp P T 0 #[] (.call c) ty C F:=rfl
end
end Go.V
