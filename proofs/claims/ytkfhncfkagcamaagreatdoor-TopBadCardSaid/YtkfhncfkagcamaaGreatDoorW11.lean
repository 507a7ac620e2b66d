/- W9: a region that draws its order, where more than one operation may come next: each of them is walked. -/
import Derived.Test.YtkfhncfkagcamaaGreatDoorW8
namespace Go.V
set_option linter.unusedVariables false
set_option linter.unusedSimpArgs false
inductive Tr where
 | nil
 | q (i:Nat) (t:Tr)
 | s (i:Nat) (t:Tr)
 | or (i:Nat) (t:Tr) (r:Tr)
def Tr.alts:Tr→List Nat
 | .s i _=>[i]
 | .or i _ r=>i :: r.alts
 | _=>[]
def Tr.ok (ops:Array Oper):Tr→Nat→Array Bool→Bool→Bool
 | .nil,n,listed,_=>Nat.beq n 0&&(Region.ready .any ops listed).isEmpty
 | .q _ _,0,_,_=>false
 | .q i t,n+1,listed,_=>((Region.ready .any ops listed).contains i&&Region.free .any ops listed i)&&t.ok ops n (listed.setIfInBounds i true) true
 | .s _ _,0,_,_=>false
 | .s i t,n+1,listed,b=>(!b||(Region.ready .any ops listed == [i]))&&t.ok ops n (listed.setIfInBounds i true) true
 | .or _ _ _,0,_,_=>false
 | .or i t r,n+1,listed,b=>(!b||(Region.ready .any ops listed == i :: r.alts))&&(t.ok ops n (listed.setIfInBounds i true) true&&r.ok ops (n+1) listed false)
section
variable {P:Program} {n:Nat} {T:World} {N:Env→Hp→Prop} {X:Nat→Env→Hp→Prop} {R:Env→Hp→Prop} {F:Env} {h:Hp}
def jl (P:Program) (T:World) (ops:List Oper) (B:Nat) (h0:Hp) (N:Env→Hp→Prop):Tr→Env→Hp→Prop
 | .nil,F,h=>N F h
 | .q i t,F,h=>match nth ops i with
  | some ⟨d,op,ty,_,_,none⟩=>VW P T B h0 op ty (fun v=>jl P T ops B h0 N t (Z2 F d v) h) F
  | some ⟨d,op,ty,_,_,some (j,b)⟩=>Xt (QE ops F j) b (VW P T B h0 op ty (fun v=>jl P T ops B h0 N t (Z2 F d v) h) F) (jl P T ops B h0 N t (Z2 F d undef) h)
  | none=>False
 | .s i t,F,h=>match nth ops i with
  | some ⟨d,op,ty,_,_,none⟩=>Wo P T op ty (fun v h'=>Ze B h0 h'∧jl P T ops B h0 N t (Z2 F d v) h') F h
  | some ⟨d,op,ty,_,_,some (j,b)⟩=>Xt (QE ops F j) b (Wo P T op ty (fun v h'=>Ze B h0 h'∧jl P T ops B h0 N t (Z2 F d v) h') F h) (Ze B h0 h∧jl P T ops B h0 N t (Z2 F d undef) h)
  | none=>False
 | .or i t r,F,h=>(match nth ops i with
  | some ⟨d,op,ty,_,_,none⟩=>Wo P T op ty (fun v h'=>Ze B h0 h'∧jl P T ops B h0 N t (Z2 F d v) h') F h
  | some ⟨d,op,ty,_,_,some (j,b)⟩=>Xt (QE ops F j) b (Wo P T op ty (fun v h'=>Ze B h0 h'∧jl P T ops B h0 N t (Z2 F d v) h') F h) (Ze B h0 h∧jl P T ops B h0 N t (Z2 F d undef) h)
  | none=>False)∧jl P T ops B h0 N r F h
theorem UU {ops:List Oper} {i:Nat} {o:Oper} (h:nth ops i=some o):ops.toArray[i]? = some o:=by
 rw[List.getElem?_toArray,←Yj];exact h
theorem BE {ops:List Oper} {B:Nat} {h0:Hp} {i:Nat} {K K':Env→Hp→Prop} (hk:∀F h,K F h→K' F h)
  (H:match nth ops i with
    | some ⟨d,op,ty,_,_,none⟩=>Wo P T op ty (fun v h'=>Ze B h0 h'∧K (Z2 F d v) h') F h
    | some ⟨d,op,ty,_,_,some (j,b)⟩=>Xt (QE ops F j) b (Wo P T op ty (fun v h'=>Ze B h0 h'∧K (Z2 F d v) h') F h) (Ze B h0 h∧K (Z2 F d undef) h)
    | none=>False):JR P T ops.toArray i (fun F' h'=>Ze B h0 h'∧K' F' h') F h:=by
 unfold JR
 cases ho:nth ops i with
 | none=>rw[ho]at H;exact H.elim
 | some o=>
  rw[UU ho]
  rw[ho]at H
  obtain⟨d,op,ty,pos,Q8,g⟩:=o
  cases g with
  | none=>
   show (if Z6 ops.toArray _ F=true then _ else _)
   rw[if_pos (by rfl)]
   exact JT (fun v h' q=>⟨q.1,hk _ _ q.2⟩) H
  | some jb=>
   obtain⟨j,b⟩:=jb
   show (if Z6 ops.toArray _ F=true then _ else _)
   rcases YP ops F d op pos Q8 j b H with⟨hw,H⟩|⟨hw,H⟩
   ·rw[if_pos hw]
    exact JT (fun v h' q=>⟨q.1,hk _ _ q.2⟩) H
   ·rw[hw,if_neg (by simp)]
    exact⟨H.1,hk _ _ H.2⟩
def tKs (P:Program) (T:World) (ops:List Oper) (B:Nat) (h0:Hp) (N:Env→Hp→Prop) (t:Tr) (F:Env) (d:Option Tmp):Value→Hp→Prop:=fun v h'=>Ze B h0 h'∧jl P T ops B h0 N t (Z2 F d v) h'
def tS (P:Program) (T:World) (ops:List Oper) (B:Nat) (h0:Hp) (N:Env→Hp→Prop) (t:Tr) (F:Env) (h:Hp) (o:Option Oper):Prop:=
 match o with
 | some ⟨d,op,ty,_,_,none⟩=>Wo P T op ty (tKs P T ops B h0 N t F d) F h
 | some ⟨d,op,ty,_,_,some (j,b)⟩=>Xt (QE ops F j) b (Wo P T op ty (tKs P T ops B h0 N t F d) F h) (Ze B h0 h∧jl P T ops B h0 N t (Z2 F d undef) h)
 | none=>False
variable {ops:List Oper} {B:Nat} {h0:Hp} {t r:Tr} {i j:Nat} {d:Option Tmp} {op:Op} {ty:TypeId} {pos:String} {Q8:Array Edge} {b c:Bool} {v:Value}
end
section
variable {B:Nat} {h h':Hp} {o:Obj} {b:Nat}
@[go_sem] theorem ZbB:Ze B h h=True:=eq_true (Ze.refl _ _)
@[go_sem] theorem ZcS (a:Ze h.size h h'):Ze h.size h (h'.push o)=True:=eq_true (a.add _)
@[go_sem] theorem ZcT (a:Ze B h h') (hb:B≤b):Ze B h (h'.setIfInBounds b o)=True:=eq_true (a.Zk hb _)
attribute [go_sem] Nat.le_add_right Nat.le_refl List.cons_append List.nil_append
@[go_sem] theorem ZcU (z:List Value):XS 1 z=z:=by simp[XS]
@[go_sem] theorem ZcV (z:List Value):XS 2 z=z++z:=by simp[XS]
end
theorem Jh.ZcW {α:Type} {enc:α→List Value} {n B:Nat} {E:TypeId} {h:Hp} {v:Value} {l:List α} (QN:∀x,(enc x).length=n) (hn:n≠0) (s:Jh B E enc n h v l) :
  ∃p cap,v=.slice p l.length cap∧(l≠[]→∃b o,p=some ⟨b,o,none⟩∧B≤b∧b<h.size∧∀i (hi:i<l.length),YZ h b (o+i*n) (enc l[i])):=by
 obtain⟨p,cap,hv,Yx⟩:=s.ts.open QN hn
 refine⟨p,cap,hv,fun Yr=>?_⟩
 obtain⟨b,o,hp,hb,hc⟩:=Yx Yr
 refine⟨b,o,hp,?_,hb,hc⟩
 rcases s.own with⟨_,h0,_⟩|⟨b',Li,spare,hB,Ee,_⟩
 ·exact absurd (List.eq_nil_of_length_eq_zero h0) Yr
 ·rw[hv,hp]at Ee
  simp only[Value.slice.injEq,Option.some.injEq,Addr.mk.injEq]at Ee
  obtain⟨⟨rfl,_⟩,_⟩:=Ee
  exact hB
theorem Jh.one {α:Type} {enc:α→List Value} {n B:Nat} {E:TypeId} {h:Hp} (x:α) (QN:∀x,(enc x).length=n) (hB:B≤h.size):Jh B E enc n (h.push (.cells (enc x).toArray E)) (.slice (some ⟨h.size,0,none⟩) 1 1) [x]:=by
 have:=Jh.made (h:=h) (E:=E) (B:=B) QN [x] hB
 simpa [Zz] using this
section
variable {P:Program} {n:Nat} {T:World} {N:Env→Hp→Prop} {X:Nat→Env→Hp→Prop} {R:Env→Hp→Prop} {F:Env} {h:Hp}
def Pw (P:Program) (T:World) (ops:Array Oper) (S:Hp→Prop) (W:List Nat) (N:Env→Hp→Prop):Nat→Array Bool→Env→Hp→Prop
 | 0,listed,F,h=>Region.ready .any ops listed=[]∧N F h
 | k+1,listed,F,h=>(Region.ready .any ops listed=[]→N F h) ∧
   ∀i∈Region.ready .any ops listed,JR P T ops i (fun F' h'=>(i∈W∨S h')∧Pw P T ops S W N k (listed.setIfInBounds i true) F' h') F h
theorem Is {ops:Array Oper} {S:Hp→Prop} {W:List Nat}:∀(k:Nat) (listed:Array Bool) (F:Env) (h:Hp),Pw P T ops S W N k listed F h→CP P T ops (fun _=>True) N k listed F h:=by
 intro k
 induction k with
 | zero=>intro listed F h H;exact H
 | succ k ih=>intro listed F h H;exact⟨H.1,fun i hi=>XL (fun F' h' q=>⟨trivial,ih _ _ _ q.2⟩) (H.2 i hi)⟩
def Ji (ops:Array Oper) (listed:Array Bool):Prop:=
 ∀(j:Nat) oj,ops[j]? = some oj→listed.getD j false=true→∀e∈oj.after,Region.binds .any e=true→listed.getD e.on false=true
theorem getD_set_true {l:Array Bool} {j k:Nat} (h:l.getD k false=true):(l.setIfInBounds j true).getD k false=true:=by
 rw[Array.getD_eq_getD_getElem?]at h ⊢
 rw[Array.getElem?_setIfInBounds]
 by_cases bj:j=k
 ·subst bj
  rw[if_pos rfl]
  by_cases ZA:j<l.size
  ·rw[if_pos ZA];rfl
  ·rw[Array.getElem?_eq_none (by omega)]at h;cases h
 ·rw[if_neg bj];exact h
theorem Ji.set {ops:Array Oper} {listed:Array Bool} (c:Ji ops listed) {j:Nat} (hj:j∈Region.ready .any ops listed):Ji ops (listed.setIfInBounds j true):=by
 intro k ok Jk hl e he hb
 obtain⟨_,oj,dJ,YH⟩:=mem_ready.1 hj
 by_cases bj:j=k
 ·subst bj
  rw[dJ]at Jk
  obtain rfl:=Option.some.inj Jk
  exact getD_set_true (YH e he hb)
 ·refine getD_set_true (c k ok Jk ?_ e he hb)
  rw[Array.getD_eq_getD_getElem?,Array.getElem?_setIfInBounds,if_neg bj]at hl
  rw[Array.getD_eq_getD_getElem?];exact hl
def bK:Nat:=16
def ons (ops:Array Oper) (k:Nat):List Nat:=match ops[k]? with|some o=>(o.after.toList.filter fun e=>Region.binds .any e).map fun e=>e.on|none=>[]
def Gn (ops:Array Oper):Nat→List Nat→List Nat
 | 0,M=>M
 | k+1,M=>Gn ops k (if M.any (Nat.beq k)=true then ons ops k++M else M)
def Ua (ops:Array Oper) (f j i:Nat):Bool:=(Gn ops j (ons ops j)).any (Nat.beq i)
theorem Lo {ops:Array Oper} {k:Nat} {L:Nat→Prop} (h:∀o,ops[k]? = some o→∀e∈o.after,Region.binds .any e=true→L e.on):∀x∈ons ops k,L x:=by
 intro x hx
 unfold ons at hx
 cases ho:ops[k]? with
 | none=>rw[ho]at hx;cases hx
 | some o=>
  rw[ho]at hx
  simp only[List.mem_map,List.mem_filter]at hx
  obtain⟨e,⟨he,hb⟩,rfl⟩:=hx
  exact h o ho e (by simpa using he) hb
theorem Lp {ops:Array Oper} {listed:Array Bool} (c:Ji ops listed):∀(k:Nat) (M:List Nat),(∀x∈M,listed.getD x false=true)→∀x∈Gn ops k M,listed.getD x false=true:=by
 intro k
 induction k with
 | zero=>intro M hM;exact hM
 | succ k ih=>
  intro M hM
  refine ih _ ?_
  split
  ·rename_i hk
   obtain⟨y,hy,he⟩:=List.any_eq_true.1 hk
   obtain rfl:=Nat.eq_of_beq_eq_true he
   intro x hx
   rcases List.mem_append.1 hx with hx|hx
   ·exact Lo (L:=fun x=>listed.getD x false=true) (fun o ho e he hb=>c _ o ho (hM _ hy) e he hb) x hx
   ·exact hM x hx
  ·exact hM
theorem Nj {ops:Array Oper} {listed:Array Bool} (c:Ji ops listed) {i f j:Nat} (h:Ua ops f j i=true) (hj:j∈Region.ready .any ops listed):listed.getD i false=true:=by
 obtain⟨_,o,ho,YH⟩:=mem_ready.1 hj
 unfold Ua at h
 obtain⟨y,hy,he⟩:=List.any_eq_true.1 h
 obtain rfl:=Nat.eq_of_beq_eq_true he
 refine Lp c _ _ (Lo (L:=fun x=>listed.getD x false=true) fun o' Rt e he hb=>?_) _ hy
 rw[ho]at Rt
 obtain rfl:=Option.some.inj Rt
 exact YH e he hb
theorem Nk {ops:Array Oper} {S:Hp→Prop} {W:List Nat} {i:Nat} {oi:Oper} {v:Value} (hi:ops[i]? = some oi) (FH:∀(j:Nat) (o:Oper) cs b,ops[j]? = some o→o.op ≠ .select cs b)
  (hW:∀j∈W,∃f,Ua ops f j i=true) :
  ∀(k:Nat) (listed:Array Bool) (F:Env) (h:Hp),Ji ops listed →
   (∀j oj,ops[j]? = some oj→j≠i→listed.getD j true=false→(∀e∈oj.after,Region.binds .any e=true→e.on≠i)→oi.apart ops oj=true) →
   i∈Region.ready .any ops listed→Qp P T ops S oi v F→S h →
   Pw P T ops S W N k (listed.setIfInBounds i true) (Z2 F oi.dst v) h→Pw P T ops S W N (k+1) listed F h:=by
 intro k
 induction k with
 | zero=>
  intro listed F h _ _ hr hy hS H
  refine⟨fun h=>(by rw[h]at hr;cases hr),fun j hj=>?_⟩
  by_cases Wn:j=i
  ·subst Wn;exact hy.opI hi hS ⟨.inr hS,H⟩
  ·have:=ready_mono hj Wn
   rw[H.1]at this
   cases this
 | succ k ih=>
  intro listed F h X4 Ng hr hy hS H
  refine⟨fun h=>(by rw[h]at hr;cases hr),fun j hj=>?_⟩
  by_cases Wn:j=i
  ·subst Wn;exact hy.opI hi hS ⟨.inr hS,H⟩
  ·have h1:=H.2 j (ready_mono hj Wn)
   obtain⟨FI,oj,dJ,YH⟩:=mem_ready.1 hj
   have HX:∀e∈oj.after,Region.binds .any e=true→e.on≠i:=fun e he hb heq=>by
    have h1:=YH e he hb
    have h0:=(mem_ready.1 hr).1
    rw[heq]at h1
    rcases Nat.lt_or_ge i listed.size with h'|h'
    ·simp[h']at h0 h1;rw[h0]at h1;cases h1
    ·simp[Array.getElem?_eq_none h']at h1
   have hjW:j ∉ W:=fun hjw=>by
    obtain⟨f,hf⟩:=hW j hjw
    have h1:=Nj X4 hf hj
    have h0:=(mem_ready.1 hr).1
    rcases Nat.lt_or_ge i listed.size with h'|h'
    ·simp[h']at h0 h1;rw[h0]at h1;cases h1
    ·simp[Array.getElem?_eq_none h']at h1
   have h2:=MU dJ (Ng j oj dJ Wn FI HX) (fun cs b=>FH i oi cs b hi) (fun cs b=>FH j oj cs b dJ) hy h1
   have MW:∀k ok,ops[k]? = some ok→k≠i→(listed.setIfInBounds j true).getD k true=false →
     (∀e∈ok.after,Region.binds .any e=true→e.on≠i)→oi.apart ops ok=true:=fun k ok hk hki wm hno=>by
    refine Ng k ok hk hki ?_ hno
    by_cases bj:j=k
    ·subst bj;exact FI
    ·rw[getD_set_ne true bj]at wm;exact wm
   refine XL (fun F' h' h3=>?_) h2
   have hS':S h':=h3.2.1.resolve_left hjW
   refine⟨.inr hS',ih (listed.setIfInBounds j true) F' h' (X4.set hj) MW (ready_mono hr (Ne.symm Wn)) h3.1 hS' ?_⟩
   rw[Array.setIfInBounds_comm _ _ Wn]
   exact h3.2.2
inductive SO where
 | nil
 | q (i:Nat) (t:SO)
 | s (i:Nat) (t:SO)
 | w (i:Nat) (t:SO)
 | or (i:Nat) (t:SO) (r:SO)
def SO.alts:SO→List Nat
 | .s i _=>[i]
 | .w i _=>[i]
 | .or i _ r=>i :: r.alts
 | _=>[]
def SO.Px:SO→Bool
 | .q _ _=>true
 | .s _ t=>t.Px
 | .or _ t r=>t.Px||r.Px
 | _=>false
def SO.ok (ops:Array Oper) (W:List Nat):SO→Nat→Array Bool→Bool→Bool
 | .nil,n,listed,_=>Nat.beq n 0&&(Region.ready .any ops listed).isEmpty
 | .q _ _,0,_,_=>false
 | .q i t,n+1,listed,_=>((Region.ready .any ops listed).contains i&&(Region.free .any ops listed i&&W.all fun j=>Ua ops bK j i))&&t.ok ops W n (listed.setIfInBounds i true) true
 | .s _ _,0,_,_=>false
 | .s i t,n+1,listed,b=>(!b||(Region.ready .any ops listed == [i]))&&t.ok ops W n (listed.setIfInBounds i true) true
 | .w _ _,0,_,_=>false
 | .w i t,n+1,listed,b=>((!b||(Region.ready .any ops listed == [i]))&&(W.contains i&&!t.Px))&&t.ok ops W n (listed.setIfInBounds i true) true
 | .or _ _ _,0,_,_=>false
 | .or i t r,n+1,listed,b=>(!b||(Region.ready .any ops listed == i :: r.alts))&&(t.ok ops W n (listed.setIfInBounds i true) true&&r.ok ops W (n+1) listed false)
def bL (P:Program) (T:World) (ops:Array Oper) (S:Hp→Prop) (N:Env→Hp→Prop):SO→Env→Hp→Prop
 | .nil,F,h=>N F h
 | .q i t,F,h=>match ops[i]? with
  | some o=>if Z6 ops o F then ∃v,(∀h',S h'→K0 P T o (fun v' On=>v'=v∧On=h') F h')∧bL P T ops S N t (Z2 F o.dst v) h else bL P T ops S N t (Z2 F o.dst undef) h
  | none=>False
 | .s i t,F,h=>JR P T ops i (fun F' h'=>S h'∧bL P T ops S N t F' h') F h
 | .w i t,F,h=>JR P T ops i (fun F' h'=>bL P T ops S N t F' h') F h
 | .or i t r,F,h=>JR P T ops i (fun F' h'=>S h'∧bL P T ops S N t F' h') F h∧bL P T ops S N r F h
theorem Gp {ops:Array Oper} {S:Hp→Prop} {W:List Nat} (hs:Region.noSelect ops=true):∀(t:SO),
  (∀(k:Nat) (listed:Array Bool) (F:Env) (h:Hp),Ji ops listed→t.ok ops W k listed true=true→(t.Px=true→S h)→bL P T ops S N t F h→Pw P T ops S W N k listed F h) ∧
  (∀(k:Nat) (listed:Array Bool) (F:Env) (h:Hp),Ji ops listed→t.ok ops W (k+1) listed false=true→bL P T ops S N t F h→∀j∈t.alts,j∈Region.ready .any ops listed→JR P T ops j (fun F' h'=>(j∈W∨S h')∧Pw P T ops S W N k (listed.setIfInBounds j true) F' h') F h):=by
 intro t
 induction t with
 | nil=>
  refine⟨fun k listed F h X4 hB hS H=>?_,fun k listed F h _ _ _ j hj=>by cases hj⟩
  simp only[SO.ok,Bool.and_eq_true,List.isEmpty_iff]at hB
  obtain⟨h1,h2⟩:=hB
  obtain rfl:=Nat.eq_of_beq_eq_true h1
  exact⟨h2,H⟩
 | q i t ih=>
  refine⟨fun k listed F h X4 hB hS H=>?_,fun k listed F h _ _ _ j hj=>by cases hj⟩
  have hS:=hS rfl
  cases k with
  | zero=>simp[SO.ok]at hB
  | succ k=>
   simp only[SO.ok,Bool.and_eq_true]at hB
   obtain⟨⟨h1,h2,hw⟩,h3⟩:=hB
   have Ri:i∈Region.ready .any ops listed:=by simpa using h1
   obtain⟨_,o,ho,_⟩:=mem_ready.1 Ri
   have hW:∀j∈W,∃f,Ua ops f j i=true:=fun j hj=>⟨bK,List.all_eq_true.1 hw j hj⟩
   simp only[bL,ho]at H
   split at H
   ·rename_i MT
    obtain⟨v,hv,H⟩:=H
    exact Nk ho (Region.noSelect_spec hs) hW k listed F h X4 (Region.free_spec ho h2) Ri (.inl ⟨MT,hv⟩) hS (ih.1 k _ _ _ (X4.set Ri) h3 (fun _=>hS) H)
   ·rename_i MT
    exact Nk ho (Region.noSelect_spec hs) hW k listed F h X4 (Region.free_spec ho h2) Ri (.inr ⟨by simpa using MT,rfl⟩) hS (ih.1 k _ _ _ (X4.set Ri) h3 (fun _=>hS) H)
 | s i t ih=>
  have second:∀(k:Nat) (listed:Array Bool) (F:Env) (h:Hp),Ji ops listed→i∈Region.ready .any ops listed→t.ok ops W k (listed.setIfInBounds i true) true=true→bL P T ops S N (.s i t) F h→JR P T ops i (fun F' h'=>(i∈W∨S h')∧Pw P T ops S W N k (listed.setIfInBounds i true) F' h') F h:=by
   intro k listed F h X4 Ri hB H
   exact XL (fun F' h' q=>⟨.inr q.1,ih.1 k _ _ _ (X4.set Ri) hB (fun _=>q.1) q.2⟩) H
  refine⟨fun k listed F h X4 hB hS H=>?_,fun k listed F h X4 hB H j hj hr=>?_⟩
  ·cases k with
   | zero=>simp[SO.ok]at hB
   | succ k=>
    simp only[SO.ok,Bool.and_eq_true,Bool.not_true,Bool.false_or,beq_iff_eq]at hB
    refine⟨fun h0=>(by rw[hB.1]at h0;cases h0),fun j hj=>?_⟩
    have hr:=hj
    rw[hB.1]at hj
    have hj:j=i:=by simpa using hj
    subst hj
    exact second k listed F h X4 hr hB.2 H
  ·simp only[SO.ok,Bool.and_eq_true]at hB
   have hj:j=i:=by simpa [SO.alts] using hj
   subst hj
   exact second k listed F h X4 hr hB.2 H
 | w i t ih=>
  have second:∀(k:Nat) (listed:Array Bool) (F:Env) (h:Hp),Ji ops listed→i∈Region.ready .any ops listed→i∈W→t.Px=false→t.ok ops W k (listed.setIfInBounds i true) true=true→bL P T ops S N (.w i t) F h→JR P T ops i (fun F' h'=>(i∈W∨S h')∧Pw P T ops S W N k (listed.setIfInBounds i true) F' h') F h:=by
   intro k listed F h X4 Ri hw hq hB H
   exact XL (fun F' h' q=>⟨.inl hw,ih.1 k _ _ _ (X4.set Ri) hB (fun e=>by rw[hq]at e;cases e) q⟩) H
  refine⟨fun k listed F h X4 hB hS H=>?_,fun k listed F h X4 hB H j hj hr=>?_⟩
  ·cases k with
   | zero=>simp[SO.ok]at hB
   | succ k=>
    simp only[SO.ok,Bool.and_eq_true,Bool.not_true,Bool.false_or,beq_iff_eq,Bool.not_eq_true']at hB
    obtain⟨⟨h1,h2,h3⟩,h4⟩:=hB
    refine⟨fun h0=>(by rw[h1]at h0;cases h0),fun j hj=>?_⟩
    have hr:=hj
    rw[h1]at hj
    have hj:j=i:=by simpa using hj
    subst hj
    exact second k listed F h X4 hr (by simpa using h2) h3 h4 H
  ·simp only[SO.ok,Bool.and_eq_true,Bool.not_eq_true']at hB
   obtain⟨⟨h1,h2,h3⟩,h4⟩:=hB
   have hj:j=i:=by simpa [SO.alts] using hj
   subst hj
   exact second k listed F h X4 hr (by simpa using h2) h3 h4 H
 | or i t r zc zd=>
  have second:∀(k:Nat) (listed:Array Bool) (F:Env) (h:Hp),Ji ops listed→t.ok ops W k (listed.setIfInBounds i true) true=true→r.ok ops W (k+1) listed false=true→bL P T ops S N (.or i t r) F h→∀j∈(SO.or i t r).alts,j∈Region.ready .any ops listed→JR P T ops j (fun F' h'=>(j∈W∨S h')∧Pw P T ops S W N k (listed.setIfInBounds j true) F' h') F h:=by
   intro k listed F h X4 hB hR H j hj hr
   rcases List.mem_cons.1 hj with hj|hj
   ·subst hj
    exact XL (fun F' h' q=>⟨.inr q.1,zc.1 k _ _ _ (X4.set hr) hB (fun _=>q.1) q.2⟩) H.1
   ·exact zd.2 k listed F h X4 hR H.2 j hj hr
  refine⟨fun k listed F h X4 hB hS H=>?_,fun k listed F h X4 hB H j hj hr=>?_⟩
  ·cases k with
   | zero=>simp[SO.ok]at hB
   | succ k=>
    simp only[SO.ok,Bool.and_eq_true,Bool.not_true,Bool.false_or,beq_iff_eq]at hB
    refine⟨fun h0=>(by rw[hB.1]at h0;cases h0),fun j hj=>?_⟩
    have hr:=hj
    rw[hB.1]at hj
    exact second k listed F h X4 hB.2.1 hB.2.2 H j hj hr
  ·simp only[SO.ok,Bool.and_eq_true]at hB
   exact second k listed F h X4 hB.2.1 hB.2.2 H j hj hr
def wKs (B:Nat) (h0:Hp) (K:Env→Hp→Prop) (F:Env) (d:Option Tmp):Value→Hp→Prop:=fun v h'=>Ze B h0 h'∧K (Z2 F d v) h'
def wKw (K:Env→Hp→Prop) (F:Env) (d:Option Tmp):Value→Hp→Prop:=fun v h'=>K (Z2 F d v) h'
def wQg (P:Program) (T:World) (B:Nat) (h0:Hp) (K:Env→Hp→Prop) (F:Env) (h:Hp) (d:Option Tmp) (op:Op) (ty:TypeId) (v:Value) (b:Bool):Prop:=Xt v b (VW P T B h0 op ty (fun v=>K (Z2 F d v) h) F) (K (Z2 F d undef) h)
def wQ (P:Program) (T:World) (ops:List Oper) (B:Nat) (h0:Hp) (K:Env→Hp→Prop) (F:Env) (h:Hp) (o:Option Oper):Prop:=
 match o with
 | some ⟨d,op,ty,_,_,none⟩=>VW P T B h0 op ty (fun v=>K (Z2 F d v) h) F
 | some ⟨d,op,ty,_,_,some (j,b)⟩=>wQg P T B h0 K F h d op ty (QE ops F j) b
 | none=>False
def wSg (P:Program) (T:World) (B:Nat) (h0:Hp) (K:Env→Hp→Prop) (F:Env) (h:Hp) (d:Option Tmp) (op:Op) (ty:TypeId) (v:Value) (b:Bool):Prop:=Xt v b (Wo P T op ty (wKs B h0 K F d) F h) (Ze B h0 h∧K (Z2 F d undef) h)
def wS (P:Program) (T:World) (ops:List Oper) (B:Nat) (h0:Hp) (K:Env→Hp→Prop) (F:Env) (h:Hp) (o:Option Oper):Prop:=
 match o with
 | some ⟨d,op,ty,_,_,none⟩=>Wo P T op ty (wKs B h0 K F d) F h
 | some ⟨d,op,ty,_,_,some (j,b)⟩=>wSg P T B h0 K F h d op ty (QE ops F j) b
 | none=>False
def wWg (P:Program) (T:World) (K:Env→Hp→Prop) (F:Env) (h:Hp) (d:Option Tmp) (op:Op) (ty:TypeId) (v:Value) (b:Bool):Prop:=Xt v b (Wo P T op ty (wKw K F d) F h) (K (Z2 F d undef) h)
def wW (P:Program) (T:World) (ops:List Oper) (K:Env→Hp→Prop) (F:Env) (h:Hp) (o:Option Oper):Prop:=
 match o with
 | some ⟨d,op,ty,_,_,none⟩=>Wo P T op ty (wKw K F d) F h
 | some ⟨d,op,ty,_,_,some (j,b)⟩=>wWg P T K F h d op ty (QE ops F j) b
 | none=>False
def FD (P:Program) (T:World) (ops:List Oper) (B:Nat) (h0:Hp) (N:Env→Hp→Prop):SO→Env→Hp→Prop
 | .nil,F,h=>N F h
 | .q i t,F,h=>wQ P T ops B h0 (FD P T ops B h0 N t) F h (nth ops i)
 | .s i t,F,h=>wS P T ops B h0 (FD P T ops B h0 N t) F h (nth ops i)
 | .w i t,F,h=>wW P T ops (FD P T ops B h0 N t) F h (nth ops i)
 | .or i t r,F,h=>wS P T ops B h0 (FD P T ops B h0 N t) F h (nth ops i)∧FD P T ops B h0 N r F h
theorem Py {ops:List Oper} {B:Nat} {h0:Hp} {i:Nat} {K K':Env→Hp→Prop} (hk:∀F h,K F h→K' F h) (H:wS P T ops B h0 K F h (nth ops i)):JR P T ops.toArray i (fun F' h'=>Ze B h0 h'∧K' F' h') F h:=by
 refine BE (K:=K) hk ?_
 cases ho:nth ops i with
 | none=>rw[ho]at H;exact H.elim
 | some o=>
  rw[ho]at H
  obtain⟨d,op,ty,pos,Q8,g⟩:=o
  cases g with
  | none=>exact H
  | some jb=>exact H
theorem Ej {ops:List Oper} {i:Nat} {K K':Env→Hp→Prop} (hk:∀F h,K F h→K' F h) (H:wW P T ops K F h (nth ops i)):JR P T ops.toArray i K' F h:=by
 unfold JR
 cases ho:nth ops i with
 | none=>rw[ho]at H;exact H.elim
 | some o=>
  rw[UU ho]
  rw[ho]at H
  obtain⟨d,op,ty,pos,Q8,g⟩:=o
  cases g with
  | none=>
   show (if Z6 ops.toArray _ F=true then _ else _)
   rw[if_pos (by rfl)]
   exact JT (fun v h' q=>hk _ _ q) H
  | some jb=>
   obtain⟨j,b⟩:=jb
   show (if Z6 ops.toArray _ F=true then _ else _)
   rcases YP ops F d op pos Q8 j b H with⟨hw,H⟩|⟨hw,H⟩
   ·rw[if_pos hw]
    exact JT (fun v h' q=>hk _ _ q) H
   ·rw[hw,if_neg (by simp)]
    exact hk _ _ H
theorem BF {ops:List Oper} {B:Nat} {h0:Hp} {N:Env→Hp→Prop}:∀(t:SO) (F:Env) (h:Hp),FD P T ops B h0 N t F h→bL P T ops.toArray (fun h'=>Ze B h0 h') N t F h:=by
 intro t
 induction t with
 | nil=>intro F h H;exact H
 | q i t ih=>
  intro F h H
  simp only[FD]at H
  simp only[bL]
  cases ho:nth ops i with
  | none=>rw[ho]at H;exact H.elim
  | some o=>
   rw[UU ho]
   rw[ho]at H
   obtain⟨d,op,ty,pos,Q8,g⟩:=o
   cases g with
   | none=>
    show (if Z6 ops.toArray _ F=true then _ else _)
    rw[if_pos (by rfl)]
    obtain⟨v,hv,H⟩:=UL H
    exact⟨v,fun h' hs=>Jd (hv h' hs),ih _ _ H⟩
   | some jb=>
    obtain⟨j,b⟩:=jb
    show (if Z6 ops.toArray _ F=true then _ else _)
    rcases YP ops F d op pos Q8 j b H with⟨hw,H⟩|⟨hw,H⟩
    ·rw[if_pos hw]
     obtain⟨v,hv,H⟩:=UL H
     exact⟨v,fun h' hs=>Jd (hv h' hs),ih _ _ H⟩
    ·rw[hw,if_neg (by simp)]
     exact ih _ _ H
 | s i t ih=>intro F h H;exact Py ih H
 | w i t ih=>intro F h H;exact Ej ih H
 | or i t r zc zd=>intro F h H;exact⟨Py zc H.1,zd _ _ H.2⟩
theorem Nl (ops:Array Oper) (n:Nat):Ji ops (Array.replicate n false):=by
 intro j oj _ hl
 rw[Array.getD_eq_getD_getElem?]at hl
 by_cases hj:j<n
 ·simp[hj]at hl
 ·rw[Array.getElem?_eq_none (by simp;omega)]at hl;cases hl
def ZcZ (n:Nat) (ops:Array Oper) (W:List Nat) (t:SO):Bool:=Nb n ops&&(Region.noSelect ops&&t.ok ops W ops.size (Array.replicate ops.size false) true)
theorem VS.w {id:Nat} {ops:List Oper} (B:Nat) (W:List Nat) (t:SO) (hm:P.follows .mixedOrders=true) (Jk:ZcZ n ops.toArray W t=true)
  (H:FD P T ops B h N t F h):VS P n T (.region id ops.toArray true) N X R F h:=by
 intro a w h1 h2 h3 h4
 simp only[ZcZ,Bool.and_eq_true]at Jk
 obtain⟨k1,k2,k3⟩:=Jk
 refine wp_region_any hm ?_
 refine Jc k1 _ _ F h (Is _ _ _ _ ((Gp (S:=fun h'=>Ze B h h') k2 t).1 _ _ F h (Nl _ _) k3 (fun _=>Ze.refl _ _) (BF t F h H))) a _ h1 h2 h3 ⟨h4.heap,h4.tape,h4.os,h4.output⟩
variable {ops:List Oper} {B:Nat} {h0:Hp} {t r:SO} {i j:Nat} {d:Option Tmp} {op:Op} {ty:TypeId} {pos:String} {Q8:Array Edge} {b c:Bool} {v:Value} {K:Env→Hp→Prop}
def wKq (K:Env→Hp→Prop) (F:Env) (d:Option Tmp) (h:Hp):Value→Prop:=fun v=>K (Z2 F d v) h
@[go_sem] theorem ZgJ:FD P T ops B h0 N .nil F h=N F h:=rfl
@[go_sem] theorem Zp5:FD P T ops B h0 N (.q i t) F h=wQ P T ops B h0 (FD P T ops B h0 N t) F h (nth ops i):=rfl
@[go_sem] theorem Zp6:FD P T ops B h0 N (.s i t) F h=wS P T ops B h0 (FD P T ops B h0 N t) F h (nth ops i):=rfl
@[go_sem] theorem Zp7:FD P T ops B h0 N (.w i t) F h=wW P T ops (FD P T ops B h0 N t) F h (nth ops i):=rfl
@[go_sem] theorem Zj8:FD P T ops B h0 N (.or i t r) F h=(wS P T ops B h0 (FD P T ops B h0 N t) F h (nth ops i)∧FD P T ops B h0 N r F h):=rfl
@[go_sem] theorem Zc1:wQ P T ops B h0 K F h (some ⟨d,op,ty,pos,Q8,none⟩)=VW P T B h0 op ty (wKq K F d h) F:=rfl
@[go_sem] theorem Zc2:wQ P T ops B h0 K F h (some ⟨d,op,ty,pos,Q8,some (j,b)⟩)=wQg P T B h0 K F h d op ty (QE ops F j) b:=rfl
@[go_sem] theorem Zc3:wS P T ops B h0 K F h (some ⟨d,op,ty,pos,Q8,none⟩)=Wo P T op ty (wKs B h0 K F d) F h:=rfl
@[go_sem] theorem Zc4:wS P T ops B h0 K F h (some ⟨d,op,ty,pos,Q8,some (j,b)⟩)=wSg P T B h0 K F h d op ty (QE ops F j) b:=rfl
@[go_sem] theorem Zc5:wW P T ops K F h (some ⟨d,op,ty,pos,Q8,none⟩)=Wo P T op ty (wKw K F d) F h:=rfl
@[go_sem] theorem Zc6:wW P T ops K F h (some ⟨d,op,ty,pos,Q8,some (j,b)⟩)=wWg P T K F h d op ty (QE ops F j) b:=rfl
@[go_sem] theorem Zc7:wQg P T B h0 K F h d op ty (.bool c) b=if c=b then VW P T B h0 op ty (wKq K F d h) F else K (Z2 F d undef) h:=rfl
@[go_sem] theorem Zc8:wSg P T B h0 K F h d op ty (.bool c) b=if c=b then Wo P T op ty (wKs B h0 K F d) F h else (Ze B h0 h∧K (Z2 F d undef) h):=rfl
@[go_sem] theorem Zc9:wWg P T K F h d op ty (.bool c) b=if c=b then Wo P T op ty (wKw K F d) F h else K (Z2 F d undef) h:=rfl
@[go_sem] theorem ZgK:wKq K F d h v=K (Z2 F d v) h:=rfl
@[go_sem] theorem ZgL:wKs B h0 K F d v h=(Ze B h0 h∧K (Z2 F d v) h):=rfl
@[go_sem] theorem ZgM:wKw K F d v h=K (Z2 F d v) h:=rfl
end
end Go.V
