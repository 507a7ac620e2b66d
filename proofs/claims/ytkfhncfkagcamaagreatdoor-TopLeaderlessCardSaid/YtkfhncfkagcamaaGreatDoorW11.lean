/- W9: a region that draws its order, where more than one operation may come next: each of them is walked. -/
import Derived.Test.YtkfhncfkagcamaaGreatDoorW8
namespace Go.V
set_option linter.unusedVariables false
set_option linter.unusedSimpArgs false
inductive Tr where
 | nil
 | q (i:Nat) (t:Tr)
 | s (i:Nat) (t:Tr)
 | or (i:Nat) (t:Tr) (r:Tr)
def Tr.alts:Tr→List Nat
 | .s i _=>[i]
 | .or i _ r=>i :: r.alts
 | _=>[]
def Tr.ok (ops:Array Oper):Tr→Nat→Array Bool→Bool→Bool
 | .nil,n,listed,_=>Nat.beq n 0&&(Region.ready .any ops listed).isEmpty
 | .q _ _,0,_,_=>false
 | .q i t,n+1,listed,_=>((Region.ready .any ops listed).contains i&&Region.free .any ops listed i)&&t.ok ops n (listed.setIfInBounds i true) true
 | .s _ _,0,_,_=>false
 | .s i t,n+1,listed,b=>(!b||(Region.ready .any ops listed == [i]))&&t.ok ops n (listed.setIfInBounds i true) true
 | .or _ _ _,0,_,_=>false
 | .or i t r,n+1,listed,b=>(!b||(Region.ready .any ops listed == i :: r.alts))&&(t.ok ops n (listed.setIfInBounds i true) true&&r.ok ops (n+1) listed false)
section
variable {P:Program} {n:Nat} {T:World} {N:Env→Hp→Prop} {X:Nat→Env→Hp→Prop} {R:Env→Hp→Prop} {F:Env} {h:Hp}
def gM (P:Program) (T:World) (ops:List Oper) (B:Nat) (h0:Hp) (N:Env→Hp→Prop):Tr→Env→Hp→Prop
 | .nil,F,h=>N F h
 | .q i t,F,h=>match nth ops i with
  | some ⟨d,op,ty,_,_,none⟩=>VE P T B h0 op ty (fun v=>gM P T ops B h0 N t (Z2 F d v) h) F
  | some ⟨d,op,ty,_,_,some (j,b)⟩=>Xt (Qu ops F j) b (VE P T B h0 op ty (fun v=>gM P T ops B h0 N t (Z2 F d v) h) F) (gM P T ops B h0 N t (Z2 F d undef) h)
  | none=>False
 | .s i t,F,h=>match nth ops i with
  | some ⟨d,op,ty,_,_,none⟩=>Wf P T op ty (fun v h'=>Zg B h0 h'∧gM P T ops B h0 N t (Z2 F d v) h') F h
  | some ⟨d,op,ty,_,_,some (j,b)⟩=>Xt (Qu ops F j) b (Wf P T op ty (fun v h'=>Zg B h0 h'∧gM P T ops B h0 N t (Z2 F d v) h') F h) (Zg B h0 h∧gM P T ops B h0 N t (Z2 F d undef) h)
  | none=>False
 | .or i t r,F,h=>(match nth ops i with
  | some ⟨d,op,ty,_,_,none⟩=>Wf P T op ty (fun v h'=>Zg B h0 h'∧gM P T ops B h0 N t (Z2 F d v) h') F h
  | some ⟨d,op,ty,_,_,some (j,b)⟩=>Xt (Qu ops F j) b (Wf P T op ty (fun v h'=>Zg B h0 h'∧gM P T ops B h0 N t (Z2 F d v) h') F h) (Zg B h0 h∧gM P T ops B h0 N t (Z2 F d undef) h)
  | none=>False)∧gM P T ops B h0 N r F h
theorem UL {ops:List Oper} {i:Nat} {o:Oper} (h:nth ops i=some o):ops.toArray[i]? = some o:=by
 rw[List.getElem?_toArray,←Yk];exact h
theorem CF {ops:List Oper} {B:Nat} {h0:Hp} {i:Nat} {K K':Env→Hp→Prop} (hk:∀F h,K F h→K' F h)
  (H:match nth ops i with
    | some ⟨d,op,ty,_,_,none⟩=>Wf P T op ty (fun v h'=>Zg B h0 h'∧K (Z2 F d v) h') F h
    | some ⟨d,op,ty,_,_,some (j,b)⟩=>Xt (Qu ops F j) b (Wf P T op ty (fun v h'=>Zg B h0 h'∧K (Z2 F d v) h') F h) (Zg B h0 h∧K (Z2 F d undef) h)
    | none=>False):JK P T ops.toArray i (fun F' h'=>Zg B h0 h'∧K' F' h') F h:=by
 unfold JK
 cases ho:nth ops i with
 | none=>rw[ho]at H;exact H.elim
 | some o=>
  rw[UL ho]
  rw[ho]at H
  obtain⟨d,op,ty,pos,QT,g⟩:=o
  cases g with
  | none=>
   show (if Z4 ops.toArray _ F=true then _ else _)
   rw[if_pos (by rfl)]
   exact JM (fun v h' q=>⟨q.1,hk _ _ q.2⟩) H
  | some jb=>
   obtain⟨j,b⟩:=jb
   show (if Z4 ops.toArray _ F=true then _ else _)
   rcases YP ops F d op pos QT j b H with⟨hw,H⟩|⟨hw,H⟩
   ·rw[if_pos hw]
    exact JM (fun v h' q=>⟨q.1,hk _ _ q.2⟩) H
   ·rw[hw,if_neg (by simp)]
    exact⟨H.1,hk _ _ H.2⟩
def tKs (P:Program) (T:World) (ops:List Oper) (B:Nat) (h0:Hp) (N:Env→Hp→Prop) (t:Tr) (F:Env) (d:Option Tmp):Value→Hp→Prop:=fun v h'=>Zg B h0 h'∧gM P T ops B h0 N t (Z2 F d v) h'
def tS (P:Program) (T:World) (ops:List Oper) (B:Nat) (h0:Hp) (N:Env→Hp→Prop) (t:Tr) (F:Env) (h:Hp) (o:Option Oper):Prop:=
 match o with
 | some ⟨d,op,ty,_,_,none⟩=>Wf P T op ty (tKs P T ops B h0 N t F d) F h
 | some ⟨d,op,ty,_,_,some (j,b)⟩=>Xt (Qu ops F j) b (Wf P T op ty (tKs P T ops B h0 N t F d) F h) (Zg B h0 h∧gM P T ops B h0 N t (Z2 F d undef) h)
 | none=>False
variable {ops:List Oper} {B:Nat} {h0:Hp} {t r:Tr} {i j:Nat} {d:Option Tmp} {op:Op} {ty:TypeId} {pos:String} {QT:Array Edge} {b c:Bool} {v:Value}
end
section
variable {B:Nat} {h h':Hp} {o:Obj} {b:Nat}
@[go_sem] theorem Zag:Zg B h h=True:=eq_true (Zg.refl _ _)
@[go_sem] theorem Zbt (a:Zg h.size h h'):Zg h.size h (h'.push o)=True:=eq_true (a.add _)
@[go_sem] theorem Zbu (a:Zg B h h') (hb:B≤b):Zg B h (h'.setIfInBounds b o)=True:=eq_true (a.Zm hb _)
attribute [go_sem] Nat.le_add_right Nat.le_refl List.cons_append List.nil_append
@[go_sem] theorem Zbv (z:List Value):XM 1 z=z:=by simp[XM]
@[go_sem] theorem Zbw (z:List Value):XM 2 z=z++z:=by simp[XM]
end
theorem X9.Zbx {α:Type} {enc:α→List Value} {n B:Nat} {E:TypeId} {h:Hp} {v:Value} {l:List α} (QC:∀x,(enc x).length=n) (hn:n≠0) (s:X9 B E enc n h v l) :
  ∃p cap,v=.slice p l.length cap∧(l≠[]→∃b o,p=some ⟨b,o,none⟩∧B≤b∧b<h.size∧∀i (hi:i<l.length),YY h b (o+i*n) (enc l[i])):=by
 obtain⟨p,cap,hv,YO⟩:=s.ts.open QC hn
 refine⟨p,cap,hv,fun Ys=>?_⟩
 obtain⟨b,o,hp,hb,hc⟩:=YO Ys
 refine⟨b,o,hp,?_,hb,hc⟩
 rcases s.own with⟨_,h0,_⟩|⟨b',MX,spare,hB,Fu,_⟩
 ·exact absurd (List.eq_nil_of_length_eq_zero h0) Ys
 ·rw[hv,hp]at Fu
  simp only[Value.slice.injEq,Option.some.injEq,Addr.mk.injEq]at Fu
  obtain⟨⟨rfl,_⟩,_⟩:=Fu
  exact hB
theorem X9.one {α:Type} {enc:α→List Value} {n B:Nat} {E:TypeId} {h:Hp} (x:α) (QC:∀x,(enc x).length=n) (hB:B≤h.size):X9 B E enc n (h.push (.cells (enc x).toArray E)) (.slice (some ⟨h.size,0,none⟩) 1 1) [x]:=by
 have:=X9.made (h:=h) (E:=E) (B:=B) QC [x] hB
 simpa [Zz] using this
section
variable {P:Program} {n:Nat} {T:World} {N:Env→Hp→Prop} {X:Nat→Env→Hp→Prop} {R:Env→Hp→Prop} {F:Env} {h:Hp}
def RZ (P:Program) (T:World) (ops:Array Oper) (S:Hp→Prop) (W:List Nat) (N:Env→Hp→Prop):Nat→Array Bool→Env→Hp→Prop
 | 0,listed,F,h=>Region.ready .any ops listed=[]∧N F h
 | k+1,listed,F,h=>(Region.ready .any ops listed=[]→N F h) ∧
   ∀i∈Region.ready .any ops listed,JK P T ops i (fun F' h'=>(i∈W∨S h')∧RZ P T ops S W N k (listed.setIfInBounds i true) F' h') F h
theorem KK {ops:Array Oper} {S:Hp→Prop} {W:List Nat}:∀(k:Nat) (listed:Array Bool) (F:Env) (h:Hp),RZ P T ops S W N k listed F h→DS P T ops (fun _=>True) N k listed F h:=by
 intro k
 induction k with
 | zero=>intro listed F h H;exact H
 | succ k ih=>intro listed F h H;exact⟨H.1,fun i hi=>XH (fun F' h' q=>⟨trivial,ih _ _ _ q.2⟩) (H.2 i hi)⟩
def Ja (ops:Array Oper) (listed:Array Bool):Prop:=
 ∀(j:Nat) oj,ops[j]? = some oj→listed.getD j false=true→∀e∈oj.after,Region.binds .any e=true→listed.getD e.on false=true
theorem getD_set_true {l:Array Bool} {j k:Nat} (h:l.getD k false=true):(l.setIfInBounds j true).getD k false=true:=by
 rw[Array.getD_eq_getD_getElem?]at h ⊢
 rw[Array.getElem?_setIfInBounds]
 by_cases AP:j=k
 ·subst AP
  rw[if_pos rfl]
  by_cases ZC:j<l.size
  ·rw[if_pos ZC];rfl
  ·rw[Array.getElem?_eq_none (by omega)]at h;cases h
 ·rw[if_neg AP];exact h
theorem Ja.set {ops:Array Oper} {listed:Array Bool} (c:Ja ops listed) {j:Nat} (hj:j∈Region.ready .any ops listed):Ja ops (listed.setIfInBounds j true):=by
 intro k ok JF hl e he hb
 obtain⟨_,oj,bM,Y3⟩:=mem_ready.1 hj
 by_cases AP:j=k
 ·subst AP
  rw[bM]at JF
  obtain rfl:=Option.some.inj JF
  exact getD_set_true (Y3 e he hb)
 ·refine getD_set_true (c k ok JF ?_ e he hb)
  rw[Array.getD_eq_getD_getElem?,Array.getElem?_setIfInBounds,if_neg AP]at hl
  rw[Array.getD_eq_getD_getElem?];exact hl
def A7:Nat:=16
def ons (ops:Array Oper) (k:Nat):List Nat:=match ops[k]? with|some o=>(o.after.toList.filter fun e=>Region.binds .any e).map fun e=>e.on|none=>[]
def HJ (ops:Array Oper):Nat→List Nat→List Nat
 | 0,M=>M
 | k+1,M=>HJ ops k (if M.any (Nat.beq k)=true then ons ops k++M else M)
def QY (ops:Array Oper) (f j i:Nat):Bool:=(HJ ops j (ons ops j)).any (Nat.beq i)
theorem M7 {ops:Array Oper} {k:Nat} {L:Nat→Prop} (h:∀o,ops[k]? = some o→∀e∈o.after,Region.binds .any e=true→L e.on):∀x∈ons ops k,L x:=by
 intro x hx
 unfold ons at hx
 cases ho:ops[k]? with
 | none=>rw[ho]at hx;cases hx
 | some o=>
  rw[ho]at hx
  simp only[List.mem_map,List.mem_filter]at hx
  obtain⟨e,⟨he,hb⟩,rfl⟩:=hx
  exact h o ho e (by simpa using he) hb
theorem La {ops:Array Oper} {listed:Array Bool} (c:Ja ops listed):∀(k:Nat) (M:List Nat),(∀x∈M,listed.getD x false=true)→∀x∈HJ ops k M,listed.getD x false=true:=by
 intro k
 induction k with
 | zero=>intro M hM;exact hM
 | succ k ih=>
  intro M hM
  refine ih _ ?_
  split
  ·rename_i hk
   obtain⟨y,hy,he⟩:=List.any_eq_true.1 hk
   obtain rfl:=Nat.eq_of_beq_eq_true he
   intro x hx
   rcases List.mem_append.1 hx with hx|hx
   ·exact M7 (L:=fun x=>listed.getD x false=true) (fun o ho e he hb=>c _ o ho (hM _ hy) e he hb) x hx
   ·exact hM x hx
  ·exact hM
theorem OX {ops:Array Oper} {listed:Array Bool} (c:Ja ops listed) {i f j:Nat} (h:QY ops f j i=true) (hj:j∈Region.ready .any ops listed):listed.getD i false=true:=by
 obtain⟨_,o,ho,Y3⟩:=mem_ready.1 hj
 unfold QY at h
 obtain⟨y,hy,he⟩:=List.any_eq_true.1 h
 obtain rfl:=Nat.eq_of_beq_eq_true he
 refine La c _ _ (M7 (L:=fun x=>listed.getD x false=true) fun o' Rd e he hb=>?_) _ hy
 rw[ho]at Rd
 obtain rfl:=Option.some.inj Rd
 exact Y3 e he hb
theorem OY {ops:Array Oper} {S:Hp→Prop} {W:List Nat} {i:Nat} {oi:Oper} {v:Value} (hi:ops[i]? = some oi) (GY:∀(j:Nat) (o:Oper) cs b,ops[j]? = some o→o.op ≠ .select cs b)
  (hW:∀j∈W,∃f,QY ops f j i=true) :
  ∀(k:Nat) (listed:Array Bool) (F:Env) (h:Hp),Ja ops listed →
   (∀j oj,ops[j]? = some oj→j≠i→listed.getD j true=false→(∀e∈oj.after,Region.binds .any e=true→e.on≠i)→oi.apart ops oj=true) →
   i∈Region.ready .any ops listed→Qj P T ops S oi v F→S h →
   RZ P T ops S W N k (listed.setIfInBounds i true) (Z2 F oi.dst v) h→RZ P T ops S W N (k+1) listed F h:=by
 intro k
 induction k with
 | zero=>
  intro listed F h _ _ hr hy hS H
  refine⟨fun h=>(by rw[h]at hr;cases hr),fun j hj=>?_⟩
  by_cases We:j=i
  ·subst We;exact hy.zT hi hS ⟨.inr hS,H⟩
  ·have:=ready_mono hj We
   rw[H.1]at this
   cases this
 | succ k ih=>
  intro listed F h X0 OU hr hy hS H
  refine⟨fun h=>(by rw[h]at hr;cases hr),fun j hj=>?_⟩
  by_cases We:j=i
  ·subst We;exact hy.zT hi hS ⟨.inr hS,H⟩
  ·have h1:=H.2 j (ready_mono hj We)
   obtain⟨GZ,oj,bM,Y3⟩:=mem_ready.1 hj
   have Hl:∀e∈oj.after,Region.binds .any e=true→e.on≠i:=fun e he hb heq=>by
    have h1:=Y3 e he hb
    have h0:=(mem_ready.1 hr).1
    rw[heq]at h1
    rcases Nat.lt_or_ge i listed.size with h'|h'
    ·simp[h']at h0 h1;rw[h0]at h1;cases h1
    ·simp[Array.getElem?_eq_none h']at h1
   have hjW:j ∉ W:=fun hjw=>by
    obtain⟨f,hf⟩:=hW j hjw
    have h1:=OX X0 hf hj
    have h0:=(mem_ready.1 hr).1
    rcases Nat.lt_or_ge i listed.size with h'|h'
    ·simp[h']at h0 h1;rw[h0]at h1;cases h1
    ·simp[Array.getElem?_eq_none h']at h1
   have h2:=MD bM (OU j oj bM We GZ Hl) (fun cs b=>GY i oi cs b hi) (fun cs b=>GY j oj cs b bM) hy h1
   have MF:∀k ok,ops[k]? = some ok→k≠i→(listed.setIfInBounds j true).getD k true=false →
     (∀e∈ok.after,Region.binds .any e=true→e.on≠i)→oi.apart ops ok=true:=fun k ok hk hki tW hno=>by
    refine OU k ok hk hki ?_ hno
    by_cases AP:j=k
    ·subst AP;exact GZ
    ·rw[getD_set_ne true AP]at tW;exact tW
   refine XH (fun F' h' h3=>?_) h2
   have hS':S h':=h3.2.1.resolve_left hjW
   refine⟨.inr hS',ih (listed.setIfInBounds j true) F' h' (X0.set hj) MF (ready_mono hr (Ne.symm We)) h3.1 hS' ?_⟩
   rw[Array.setIfInBounds_comm _ _ We]
   exact h3.2.2
inductive Sy where
 | nil
 | q (i:Nat) (t:Sy)
 | s (i:Nat) (t:Sy)
 | w (i:Nat) (t:Sy)
 | or (i:Nat) (t:Sy) (r:Sy)
def Sy.alts:Sy→List Nat
 | .s i _=>[i]
 | .w i _=>[i]
 | .or i _ r=>i :: r.alts
 | _=>[]
def Sy.R7:Sy→Bool
 | .q _ _=>true
 | .s _ t=>t.R7
 | .or _ t r=>t.R7||r.R7
 | _=>false
def Sy.ok (ops:Array Oper) (W:List Nat):Sy→Nat→Array Bool→Bool→Bool
 | .nil,n,listed,_=>Nat.beq n 0&&(Region.ready .any ops listed).isEmpty
 | .q _ _,0,_,_=>false
 | .q i t,n+1,listed,_=>((Region.ready .any ops listed).contains i&&(Region.free .any ops listed i&&W.all fun j=>QY ops A7 j i))&&t.ok ops W n (listed.setIfInBounds i true) true
 | .s _ _,0,_,_=>false
 | .s i t,n+1,listed,b=>(!b||(Region.ready .any ops listed == [i]))&&t.ok ops W n (listed.setIfInBounds i true) true
 | .w _ _,0,_,_=>false
 | .w i t,n+1,listed,b=>((!b||(Region.ready .any ops listed == [i]))&&(W.contains i&&!t.R7))&&t.ok ops W n (listed.setIfInBounds i true) true
 | .or _ _ _,0,_,_=>false
 | .or i t r,n+1,listed,b=>(!b||(Region.ready .any ops listed == i :: r.alts))&&(t.ok ops W n (listed.setIfInBounds i true) true&&r.ok ops W (n+1) listed false)
def A9 (P:Program) (T:World) (ops:Array Oper) (S:Hp→Prop) (N:Env→Hp→Prop):Sy→Env→Hp→Prop
 | .nil,F,h=>N F h
 | .q i t,F,h=>match ops[i]? with
  | some o=>if Z4 ops o F then ∃v,(∀h',S h'→Kw P T o (fun v' Oc=>v'=v∧Oc=h') F h')∧A9 P T ops S N t (Z2 F o.dst v) h else A9 P T ops S N t (Z2 F o.dst undef) h
  | none=>False
 | .s i t,F,h=>JK P T ops i (fun F' h'=>S h'∧A9 P T ops S N t F' h') F h
 | .w i t,F,h=>JK P T ops i (fun F' h'=>A9 P T ops S N t F' h') F h
 | .or i t r,F,h=>JK P T ops i (fun F' h'=>S h'∧A9 P T ops S N t F' h') F h∧A9 P T ops S N r F h
theorem HK {ops:Array Oper} {S:Hp→Prop} {W:List Nat} (hs:Region.noSelect ops=true):∀(t:Sy),
  (∀(k:Nat) (listed:Array Bool) (F:Env) (h:Hp),Ja ops listed→t.ok ops W k listed true=true→(t.R7=true→S h)→A9 P T ops S N t F h→RZ P T ops S W N k listed F h) ∧
  (∀(k:Nat) (listed:Array Bool) (F:Env) (h:Hp),Ja ops listed→t.ok ops W (k+1) listed false=true→A9 P T ops S N t F h→∀j∈t.alts,j∈Region.ready .any ops listed→JK P T ops j (fun F' h'=>(j∈W∨S h')∧RZ P T ops S W N k (listed.setIfInBounds j true) F' h') F h):=by
 intro t
 induction t with
 | nil=>
  refine⟨fun k listed F h X0 hB hS H=>?_,fun k listed F h _ _ _ j hj=>by cases hj⟩
  simp only[Sy.ok,Bool.and_eq_true,List.isEmpty_iff]at hB
  obtain⟨h1,h2⟩:=hB
  obtain rfl:=Nat.eq_of_beq_eq_true h1
  exact⟨h2,H⟩
 | q i t ih=>
  refine⟨fun k listed F h X0 hB hS H=>?_,fun k listed F h _ _ _ j hj=>by cases hj⟩
  have hS:=hS rfl
  cases k with
  | zero=>simp[Sy.ok]at hB
  | succ k=>
   simp only[Sy.ok,Bool.and_eq_true]at hB
   obtain⟨⟨h1,h2,hw⟩,h3⟩:=hB
   have S3:i∈Region.ready .any ops listed:=by simpa using h1
   obtain⟨_,o,ho,_⟩:=mem_ready.1 S3
   have hW:∀j∈W,∃f,QY ops f j i=true:=fun j hj=>⟨A7,List.all_eq_true.1 hw j hj⟩
   simp only[A9,ho]at H
   split at H
   ·rename_i MC
    obtain⟨v,hv,H⟩:=H
    exact OY ho (Region.noSelect_spec hs) hW k listed F h X0 (Region.free_spec ho h2) S3 (.inl ⟨MC,hv⟩) hS (ih.1 k _ _ _ (X0.set S3) h3 (fun _=>hS) H)
   ·rename_i MC
    exact OY ho (Region.noSelect_spec hs) hW k listed F h X0 (Region.free_spec ho h2) S3 (.inr ⟨by simpa using MC,rfl⟩) hS (ih.1 k _ _ _ (X0.set S3) h3 (fun _=>hS) H)
 | s i t ih=>
  have second:∀(k:Nat) (listed:Array Bool) (F:Env) (h:Hp),Ja ops listed→i∈Region.ready .any ops listed→t.ok ops W k (listed.setIfInBounds i true) true=true→A9 P T ops S N (.s i t) F h→JK P T ops i (fun F' h'=>(i∈W∨S h')∧RZ P T ops S W N k (listed.setIfInBounds i true) F' h') F h:=by
   intro k listed F h X0 S3 hB H
   exact XH (fun F' h' q=>⟨.inr q.1,ih.1 k _ _ _ (X0.set S3) hB (fun _=>q.1) q.2⟩) H
  refine⟨fun k listed F h X0 hB hS H=>?_,fun k listed F h X0 hB H j hj hr=>?_⟩
  ·cases k with
   | zero=>simp[Sy.ok]at hB
   | succ k=>
    simp only[Sy.ok,Bool.and_eq_true,Bool.not_true,Bool.false_or,beq_iff_eq]at hB
    refine⟨fun h0=>(by rw[hB.1]at h0;cases h0),fun j hj=>?_⟩
    have hr:=hj
    rw[hB.1]at hj
    have hj:j=i:=by simpa using hj
    subst hj
    exact second k listed F h X0 hr hB.2 H
  ·simp only[Sy.ok,Bool.and_eq_true]at hB
   have hj:j=i:=by simpa [Sy.alts] using hj
   subst hj
   exact second k listed F h X0 hr hB.2 H
 | w i t ih=>
  have second:∀(k:Nat) (listed:Array Bool) (F:Env) (h:Hp),Ja ops listed→i∈Region.ready .any ops listed→i∈W→t.R7=false→t.ok ops W k (listed.setIfInBounds i true) true=true→A9 P T ops S N (.w i t) F h→JK P T ops i (fun F' h'=>(i∈W∨S h')∧RZ P T ops S W N k (listed.setIfInBounds i true) F' h') F h:=by
   intro k listed F h X0 S3 hw hq hB H
   exact XH (fun F' h' q=>⟨.inl hw,ih.1 k _ _ _ (X0.set S3) hB (fun e=>by rw[hq]at e;cases e) q⟩) H
  refine⟨fun k listed F h X0 hB hS H=>?_,fun k listed F h X0 hB H j hj hr=>?_⟩
  ·cases k with
   | zero=>simp[Sy.ok]at hB
   | succ k=>
    simp only[Sy.ok,Bool.and_eq_true,Bool.not_true,Bool.false_or,beq_iff_eq,Bool.not_eq_true']at hB
    obtain⟨⟨h1,h2,h3⟩,h4⟩:=hB
    refine⟨fun h0=>(by rw[h1]at h0;cases h0),fun j hj=>?_⟩
    have hr:=hj
    rw[h1]at hj
    have hj:j=i:=by simpa using hj
    subst hj
    exact second k listed F h X0 hr (by simpa using h2) h3 h4 H
  ·simp only[Sy.ok,Bool.and_eq_true,Bool.not_eq_true']at hB
   obtain⟨⟨h1,h2,h3⟩,h4⟩:=hB
   have hj:j=i:=by simpa [Sy.alts] using hj
   subst hj
   exact second k listed F h X0 hr (by simpa using h2) h3 h4 H
 | or i t r wh wm=>
  have second:∀(k:Nat) (listed:Array Bool) (F:Env) (h:Hp),Ja ops listed→t.ok ops W k (listed.setIfInBounds i true) true=true→r.ok ops W (k+1) listed false=true→A9 P T ops S N (.or i t r) F h→∀j∈(Sy.or i t r).alts,j∈Region.ready .any ops listed→JK P T ops j (fun F' h'=>(j∈W∨S h')∧RZ P T ops S W N k (listed.setIfInBounds j true) F' h') F h:=by
   intro k listed F h X0 hB hR H j hj hr
   rcases List.mem_cons.1 hj with hj|hj
   ·subst hj
    exact XH (fun F' h' q=>⟨.inr q.1,wh.1 k _ _ _ (X0.set hr) hB (fun _=>q.1) q.2⟩) H.1
   ·exact wm.2 k listed F h X0 hR H.2 j hj hr
  refine⟨fun k listed F h X0 hB hS H=>?_,fun k listed F h X0 hB H j hj hr=>?_⟩
  ·cases k with
   | zero=>simp[Sy.ok]at hB
   | succ k=>
    simp only[Sy.ok,Bool.and_eq_true,Bool.not_true,Bool.false_or,beq_iff_eq]at hB
    refine⟨fun h0=>(by rw[hB.1]at h0;cases h0),fun j hj=>?_⟩
    have hr:=hj
    rw[hB.1]at hj
    exact second k listed F h X0 hB.2.1 hB.2.2 H j hj hr
  ·simp only[Sy.ok,Bool.and_eq_true]at hB
   exact second k listed F h X0 hB.2.1 hB.2.2 H j hj hr
def wKs (B:Nat) (h0:Hp) (K:Env→Hp→Prop) (F:Env) (d:Option Tmp):Value→Hp→Prop:=fun v h'=>Zg B h0 h'∧K (Z2 F d v) h'
def wKw (K:Env→Hp→Prop) (F:Env) (d:Option Tmp):Value→Hp→Prop:=fun v h'=>K (Z2 F d v) h'
def wQg (P:Program) (T:World) (B:Nat) (h0:Hp) (K:Env→Hp→Prop) (F:Env) (h:Hp) (d:Option Tmp) (op:Op) (ty:TypeId) (v:Value) (b:Bool):Prop:=Xt v b (VE P T B h0 op ty (fun v=>K (Z2 F d v) h) F) (K (Z2 F d undef) h)
def wQ (P:Program) (T:World) (ops:List Oper) (B:Nat) (h0:Hp) (K:Env→Hp→Prop) (F:Env) (h:Hp) (o:Option Oper):Prop:=
 match o with
 | some ⟨d,op,ty,_,_,none⟩=>VE P T B h0 op ty (fun v=>K (Z2 F d v) h) F
 | some ⟨d,op,ty,_,_,some (j,b)⟩=>wQg P T B h0 K F h d op ty (Qu ops F j) b
 | none=>False
def wSg (P:Program) (T:World) (B:Nat) (h0:Hp) (K:Env→Hp→Prop) (F:Env) (h:Hp) (d:Option Tmp) (op:Op) (ty:TypeId) (v:Value) (b:Bool):Prop:=Xt v b (Wf P T op ty (wKs B h0 K F d) F h) (Zg B h0 h∧K (Z2 F d undef) h)
def wS (P:Program) (T:World) (ops:List Oper) (B:Nat) (h0:Hp) (K:Env→Hp→Prop) (F:Env) (h:Hp) (o:Option Oper):Prop:=
 match o with
 | some ⟨d,op,ty,_,_,none⟩=>Wf P T op ty (wKs B h0 K F d) F h
 | some ⟨d,op,ty,_,_,some (j,b)⟩=>wSg P T B h0 K F h d op ty (Qu ops F j) b
 | none=>False
def wWg (P:Program) (T:World) (K:Env→Hp→Prop) (F:Env) (h:Hp) (d:Option Tmp) (op:Op) (ty:TypeId) (v:Value) (b:Bool):Prop:=Xt v b (Wf P T op ty (wKw K F d) F h) (K (Z2 F d undef) h)
def wW (P:Program) (T:World) (ops:List Oper) (K:Env→Hp→Prop) (F:Env) (h:Hp) (o:Option Oper):Prop:=
 match o with
 | some ⟨d,op,ty,_,_,none⟩=>Wf P T op ty (wKw K F d) F h
 | some ⟨d,op,ty,_,_,some (j,b)⟩=>wWg P T K F h d op ty (Qu ops F j) b
 | none=>False
def GS (P:Program) (T:World) (ops:List Oper) (B:Nat) (h0:Hp) (N:Env→Hp→Prop):Sy→Env→Hp→Prop
 | .nil,F,h=>N F h
 | .q i t,F,h=>wQ P T ops B h0 (GS P T ops B h0 N t) F h (nth ops i)
 | .s i t,F,h=>wS P T ops B h0 (GS P T ops B h0 N t) F h (nth ops i)
 | .w i t,F,h=>wW P T ops (GS P T ops B h0 N t) F h (nth ops i)
 | .or i t r,F,h=>wS P T ops B h0 (GS P T ops B h0 N t) F h (nth ops i)∧GS P T ops B h0 N r F h
theorem Pa {ops:List Oper} {B:Nat} {h0:Hp} {i:Nat} {K K':Env→Hp→Prop} (hk:∀F h,K F h→K' F h) (H:wS P T ops B h0 K F h (nth ops i)):JK P T ops.toArray i (fun F' h'=>Zg B h0 h'∧K' F' h') F h:=by
 refine CF (K:=K) hk ?_
 cases ho:nth ops i with
 | none=>rw[ho]at H;exact H.elim
 | some o=>
  rw[ho]at H
  obtain⟨d,op,ty,pos,QT,g⟩:=o
  cases g with
  | none=>exact H
  | some jb=>exact H
theorem Fz {ops:List Oper} {i:Nat} {K K':Env→Hp→Prop} (hk:∀F h,K F h→K' F h) (H:wW P T ops K F h (nth ops i)):JK P T ops.toArray i K' F h:=by
 unfold JK
 cases ho:nth ops i with
 | none=>rw[ho]at H;exact H.elim
 | some o=>
  rw[UL ho]
  rw[ho]at H
  obtain⟨d,op,ty,pos,QT,g⟩:=o
  cases g with
  | none=>
   show (if Z4 ops.toArray _ F=true then _ else _)
   rw[if_pos (by rfl)]
   exact JM (fun v h' q=>hk _ _ q) H
  | some jb=>
   obtain⟨j,b⟩:=jb
   show (if Z4 ops.toArray _ F=true then _ else _)
   rcases YP ops F d op pos QT j b H with⟨hw,H⟩|⟨hw,H⟩
   ·rw[if_pos hw]
    exact JM (fun v h' q=>hk _ _ q) H
   ·rw[hw,if_neg (by simp)]
    exact hk _ _ H
theorem CG {ops:List Oper} {B:Nat} {h0:Hp} {N:Env→Hp→Prop}:∀(t:Sy) (F:Env) (h:Hp),GS P T ops B h0 N t F h→A9 P T ops.toArray (fun h'=>Zg B h0 h') N t F h:=by
 intro t
 induction t with
 | nil=>intro F h H;exact H
 | q i t ih=>
  intro F h H
  simp only[GS]at H
  simp only[A9]
  cases ho:nth ops i with
  | none=>rw[ho]at H;exact H.elim
  | some o=>
   rw[UL ho]
   rw[ho]at H
   obtain⟨d,op,ty,pos,QT,g⟩:=o
   cases g with
   | none=>
    show (if Z4 ops.toArray _ F=true then _ else _)
    rw[if_pos (by rfl)]
    obtain⟨v,hv,H⟩:=UA H
    exact⟨v,fun h' hs=>X8 (hv h' hs),ih _ _ H⟩
   | some jb=>
    obtain⟨j,b⟩:=jb
    show (if Z4 ops.toArray _ F=true then _ else _)
    rcases YP ops F d op pos QT j b H with⟨hw,H⟩|⟨hw,H⟩
    ·rw[if_pos hw]
     obtain⟨v,hv,H⟩:=UA H
     exact⟨v,fun h' hs=>X8 (hv h' hs),ih _ _ H⟩
    ·rw[hw,if_neg (by simp)]
     exact ih _ _ H
 | s i t ih=>intro F h H;exact Pa ih H
 | w i t ih=>intro F h H;exact Fz ih H
 | or i t r wh wm=>intro F h H;exact⟨Pa wh H.1,wm _ _ H.2⟩
theorem OZ (ops:Array Oper) (n:Nat):Ja ops (Array.replicate n false):=by
 intro j oj _ hl
 rw[Array.getD_eq_getD_getElem?]at hl
 by_cases hj:j<n
 ·simp[hj]at hl
 ·rw[Array.getElem?_eq_none (by simp;omega)]at hl;cases hl
def ZbA (n:Nat) (ops:Array Oper) (W:List Nat) (t:Sy):Bool:=OR n ops&&(Region.noSelect ops&&t.ok ops W ops.size (Array.replicate ops.size false) true)
theorem VS.w {id:Nat} {ops:List Oper} (B:Nat) (W:List Nat) (t:Sy) (hm:P.follows .mixedOrders=true) (JF:ZbA n ops.toArray W t=true)
  (H:GS P T ops B h N t F h):VS P n T (.region id ops.toArray true) N X R F h:=by
 intro a w h1 h2 h3 h4
 simp only[ZbA,Bool.and_eq_true]at JF
 obtain⟨k1,k2,k3⟩:=JF
 refine wp_region_any hm ?_
 refine X7 k1 _ _ F h (KK _ _ _ _ ((HK (S:=fun h'=>Zg B h h') k2 t).1 _ _ F h (OZ _ _) k3 (fun _=>Zg.refl _ _) (CG t F h H))) a _ h1 h2 h3 ⟨h4.heap,h4.tape,h4.os,h4.output⟩
variable {ops:List Oper} {B:Nat} {h0:Hp} {t r:Sy} {i j:Nat} {d:Option Tmp} {op:Op} {ty:TypeId} {pos:String} {QT:Array Edge} {b c:Bool} {v:Value} {K:Env→Hp→Prop}
def wKq (K:Env→Hp→Prop) (F:Env) (d:Option Tmp) (h:Hp):Value→Prop:=fun v=>K (Z2 F d v) h
@[go_sem] theorem Ze6:GS P T ops B h0 N .nil F h=N F h:=rfl
@[go_sem] theorem ZnX:GS P T ops B h0 N (.q i t) F h=wQ P T ops B h0 (GS P T ops B h0 N t) F h (nth ops i):=rfl
@[go_sem] theorem ZnY:GS P T ops B h0 N (.s i t) F h=wS P T ops B h0 (GS P T ops B h0 N t) F h (nth ops i):=rfl
@[go_sem] theorem ZnZ:GS P T ops B h0 N (.w i t) F h=wW P T ops (GS P T ops B h0 N t) F h (nth ops i):=rfl
@[go_sem] theorem Zio:GS P T ops B h0 N (.or i t r) F h=(wS P T ops B h0 (GS P T ops B h0 N t) F h (nth ops i)∧GS P T ops B h0 N r F h):=rfl
@[go_sem] theorem ZbC:wQ P T ops B h0 K F h (some ⟨d,op,ty,pos,QT,none⟩)=VE P T B h0 op ty (wKq K F d h) F:=rfl
@[go_sem] theorem ZbD:wQ P T ops B h0 K F h (some ⟨d,op,ty,pos,QT,some (j,b)⟩)=wQg P T B h0 K F h d op ty (Qu ops F j) b:=rfl
@[go_sem] theorem ZbE:wS P T ops B h0 K F h (some ⟨d,op,ty,pos,QT,none⟩)=Wf P T op ty (wKs B h0 K F d) F h:=rfl
@[go_sem] theorem ZbF:wS P T ops B h0 K F h (some ⟨d,op,ty,pos,QT,some (j,b)⟩)=wSg P T B h0 K F h d op ty (Qu ops F j) b:=rfl
@[go_sem] theorem ZbG:wW P T ops K F h (some ⟨d,op,ty,pos,QT,none⟩)=Wf P T op ty (wKw K F d) F h:=rfl
@[go_sem] theorem ZbH:wW P T ops K F h (some ⟨d,op,ty,pos,QT,some (j,b)⟩)=wWg P T K F h d op ty (Qu ops F j) b:=rfl
@[go_sem] theorem ZbI:wQg P T B h0 K F h d op ty (.bool c) b=if c=b then VE P T B h0 op ty (wKq K F d h) F else K (Z2 F d undef) h:=rfl
@[go_sem] theorem ZbJ:wSg P T B h0 K F h d op ty (.bool c) b=if c=b then Wf P T op ty (wKs B h0 K F d) F h else (Zg B h0 h∧K (Z2 F d undef) h):=rfl
@[go_sem] theorem ZbK:wWg P T K F h d op ty (.bool c) b=if c=b then Wf P T op ty (wKw K F d) F h else K (Z2 F d undef) h:=rfl
@[go_sem] theorem Ze7:wKq K F d h v=K (Z2 F d v) h:=rfl
@[go_sem] theorem Ze8:wKs B h0 K F d v h=(Zg B h0 h∧K (Z2 F d v) h):=rfl
@[go_sem] theorem Ze9:wKw K F d v h=K (Z2 F d v) h:=rfl
end
end Go.V
